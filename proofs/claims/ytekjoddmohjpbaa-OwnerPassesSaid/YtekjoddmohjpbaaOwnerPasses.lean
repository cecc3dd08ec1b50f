/- OwnerPasses returns true at every input: the walk. -/
import Derived.Test.YtekjoddmohjpbaaOwner14
import Derived.Test.YtekjoddmohjpbaaOwnerFact
set_option linter.unusedVariables false
set_option linter.unusedSimpArgs false
namespace Go.Proofs.Ytekjoddmohjpbaa
open Go.RowKit
attribute [local go_sem ↓] Go.wp_at_zero Go.wp_at_succ

set_option maxRecDepth 100000 in
set_option maxHeartbeats 4000000 in
theorem passes_err (a : Option Addr) (c : Nat) (l : List OEntry) (s by_ to other : ByteArray) (w : World) (hs : entE.Slc w a c l) (hok : EntsOk l) (ht : to.size ≤ maxLen) (e0 : Int) (hE : chE l s (fun x => ofrE x by_ to) = e0) (he : e0 ≠ 0) :
    Calls Try.prog 3 #[.slice a l.length c, .string s, .string by_, .string to, .string other] w fun e w' => e = .returned (.bool true) ∧ Below w.heap.size w w' := by
  have HS := Lib.hid hs; have HOk := Lib.hid hok; have HE := Lib.hid hE; clear hs hok hE
  have hmx := HS.out.max
  unfold maxLen at hmx
  have d1 : (e0 != 0) = true := by simpa using he
  go_enter Try.func3, Try.ntmps3
  go_wp2_with fail
  refine (ofact_any _).mono ?_
  rintro e w1 ⟨rfl, hb⟩
  have hS : Below w.heap.size w w1 := Below.step (by repeat' (first | exact Below.refl _ _ | assumption | (with_reducible refine Below.alloc ?_ ?_ _) | (with_reducible refine below_drewN ?_ _) | (with_reducible refine Below.drew ?_) | (with_reducible refine Below.setCell ?_ ?_ _) | go_size)) hb (by go_size)
  replace HS := Lib.hid (Enc.Slc.after HS.out hS)
  have hB1 : Below w.heap.size w w1 := hS
  have hz1 := hB1.size
  clear hS hb
  go_wp2_with fail
  refine (ofr_any a c l s by_ to _ HS.out HOk.out ht).mono ?_
  rintro e w2 ⟨v2, rfl, -, hb⟩
  have hS : Below w1.heap.size w1 w2 := Below.step (by repeat' (first | exact Below.refl _ _ | assumption | (with_reducible refine Below.alloc ?_ ?_ _) | (with_reducible refine below_drewN ?_ _) | (with_reducible refine Below.drew ?_) | (with_reducible refine Below.setCell ?_ ?_ _) | go_size)) hb (by go_size)
  replace HS := Lib.hid (Enc.Slc.after HS.out hS)
  have hB2 : Below w.heap.size w w2 := hB1.trans (hS.mono hB1.size)
  have hz2 := hB2.size
  clear hS hb hB1
  rw [HE.out]
  go_wp2_with fail
  go_returns
  exact ⟨rfl, hB2⟩
set_option maxRecDepth 100000 in
set_option maxHeartbeats 4000000 in
theorem passes_ok (a : Option Addr) (c : Nat) (l : List OEntry) (s by_ to other : ByteArray) (w : World) (hs : entE.Slc w a c l) (hok : EntsOk l) (ht : to.size ≤ maxLen) (m n : List OEntry) (hE : chE l s (fun x => ofrE x by_ to) = 0) (hM : chL l s (fun x => ofrE x by_ to) (fun x => ofrX x to) = m) (hP : Passes l s by_ to m n) (hOm : EntsOk m) (hOn : EntsOk n) (e4 : Int) (hX : chE m s (fun x => accE x other) = e4) (d4 : (e4 == 0) = (other.toList == to.toList)) :
    Calls Try.prog 3 #[.slice a l.length c, .string s, .string by_, .string to, .string other] w fun e w' => e = .returned (.bool true) ∧ Below w.heap.size w w' := by
  have HS := Lib.hid hs; have HOk := Lib.hid hok; have HE := Lib.hid hE; have HM := Lib.hid hM; have HP := Lib.hid hP; have HOm := Lib.hid hOm; have HOn := Lib.hid hOn; have HX := Lib.hid hX
  clear hs hok hE hM hP hOm hOn hX
  have hmx := HS.out.max
  unfold maxLen at hmx
  go_enter Try.func3, Try.ntmps3
  go_wp2_with fail
  refine (ofact_any _).mono ?_
  rintro e w1 ⟨rfl, hb⟩
  have hS : Below w.heap.size w w1 := Below.step (by repeat' (first | exact Below.refl _ _ | assumption | (with_reducible refine Below.alloc ?_ ?_ _) | (with_reducible refine below_drewN ?_ _) | (with_reducible refine Below.drew ?_) | (with_reducible refine Below.setCell ?_ ?_ _) | go_size)) hb (by go_size)
  replace HS := Lib.hid (Enc.Slc.after HS.out hS)
  have hB1 : Below w.heap.size w w1 := hS
  have hz1 := hB1.size
  clear hS hb
  go_wp2_with fail
  refine (ofr_any a c l s by_ to _ HS.out HOk.out ht).mono ?_
  rintro e w2 ⟨v2, rfl, ho, hb⟩
  have hS : Below w1.heap.size w1 w2 := Below.step (by repeat' (first | exact Below.refl _ _ | assumption | (with_reducible refine Below.alloc ?_ ?_ _) | (with_reducible refine below_drewN ?_ _) | (with_reducible refine Below.drew ?_) | (with_reducible refine Below.setCell ?_ ?_ _) | go_size)) hb (by go_size)
  replace HS := Lib.hid (Enc.Slc.after HS.out hS)
  have hB2 : Below w.heap.size w w2 := hB1.trans (hS.mono hB1.size)
  have hz2 := hB2.size
  clear hS hb hB1
  rw [HM.out] at ho
  rw [HE.out]
  obtain ⟨a2, c2, hv2, hs2⟩ := ho.slc
  subst hv2
  clear ho
  have S2 := Lib.hid (hs2)
  clear hs2
  go_wp2_with fail
  refine (of_any a2 c2 m s _ S2.out HOm.out).mono ?_
  rintro e w3 ⟨rfl, hb⟩
  have hS : Below w2.heap.size w2 w3 := Below.step (by repeat' (first | exact Below.refl _ _ | assumption | (with_reducible refine Below.alloc ?_ ?_ _) | (with_reducible refine below_drewN ?_ _) | (with_reducible refine Below.drew ?_) | (with_reducible refine Below.setCell ?_ ?_ _) | go_size)) hb (by go_size)
  replace HS := Lib.hid (Enc.Slc.after HS.out hS)
  replace S2 := Lib.hid (Enc.Slc.after S2.out hS)
  have hB3 : Below w.heap.size w w3 := hB2.trans (hS.mono hB2.size)
  have hz3 := hB3.size
  clear hS hb hB2
  rw [HP.out.of1.1, HP.out.of1.2]
  go_wp2_with fail
  refine (acc_any a2 c2 m s to _ S2.out HOm.out).mono ?_
  rintro e w4 ⟨v3, rfl, ho, hb⟩
  have hS : Below w3.heap.size w3 w4 := Below.step (by repeat' (first | exact Below.refl _ _ | assumption | (with_reducible refine Below.alloc ?_ ?_ _) | (with_reducible refine below_drewN ?_ _) | (with_reducible refine Below.drew ?_) | (with_reducible refine Below.setCell ?_ ?_ _) | go_size)) hb (by go_size)
  replace HS := Lib.hid (Enc.Slc.after HS.out hS)
  replace S2 := Lib.hid (Enc.Slc.after S2.out hS)
  have hB4 : Below w.heap.size w w4 := hB3.trans (hS.mono hB3.size)
  have hz4 := hB4.size
  clear hS hb hB3
  rw [HP.out.nn] at ho
  rw [HP.out.ac]
  obtain ⟨a3, c3, hv3, hs3⟩ := ho.slc
  subst hv3
  clear ho
  have S3 := Lib.hid (hs3)
  clear hs3
  go_wp2_with fail
  refine (of_any a3 c3 n s _ S3.out HOn.out).mono ?_
  rintro e w5 ⟨rfl, hb⟩
  have hS : Below w4.heap.size w4 w5 := Below.step (by repeat' (first | exact Below.refl _ _ | assumption | (with_reducible refine Below.alloc ?_ ?_ _) | (with_reducible refine below_drewN ?_ _) | (with_reducible refine Below.drew ?_) | (with_reducible refine Below.setCell ?_ ?_ _) | go_size)) hb (by go_size)
  replace HS := Lib.hid (Enc.Slc.after HS.out hS)
  replace S2 := Lib.hid (Enc.Slc.after S2.out hS)
  replace S3 := Lib.hid (Enc.Slc.after S3.out hS)
  have hB5 : Below w.heap.size w w5 := hB4.trans (hS.mono hB4.size)
  have hz5 := hB5.size
  clear hS hb hB4
  rw [HP.out.of2.1, HP.out.of2.2]
  clear S3
  go_wp2_with fail
  refine (acc_any a2 c2 m s other _ S2.out HOm.out).mono ?_
  rintro e w6 ⟨v4, rfl, -, hb⟩
  have hS : Below w5.heap.size w5 w6 := Below.step (by repeat' (first | exact Below.refl _ _ | assumption | (with_reducible refine Below.alloc ?_ ?_ _) | (with_reducible refine below_drewN ?_ _) | (with_reducible refine Below.drew ?_) | (with_reducible refine Below.setCell ?_ ?_ _) | go_size)) hb (by go_size)
  replace HS := Lib.hid (Enc.Slc.after HS.out hS)
  replace S2 := Lib.hid (Enc.Slc.after S2.out hS)
  have hB6 : Below w.heap.size w w6 := hB5.trans (hS.mono hB5.size)
  have hz6 := hB6.size
  clear hS hb hB5
  rw [HX.out]
  go_wp2_with fail
  refine (can_any a2 c2 m s by_ _ S2.out HOm.out).mono ?_
  rintro e w7 ⟨v5, rfl, ho, hb⟩
  have hS : Below w6.heap.size w6 w7 := Below.step (by repeat' (first | exact Below.refl _ _ | assumption | (with_reducible refine Below.alloc ?_ ?_ _) | (with_reducible refine below_drewN ?_ _) | (with_reducible refine Below.drew ?_) | (with_reducible refine Below.setCell ?_ ?_ _) | go_size)) hb (by go_size)
  replace HS := Lib.hid (Enc.Slc.after HS.out hS)
  replace S2 := Lib.hid (Enc.Slc.after S2.out hS)
  have hB7 : Below w.heap.size w w7 := hB6.trans (hS.mono hB6.size)
  have hz7 := hB7.size
  clear hS hb hB6
  rw [HP.out.ca.2] at ho
  rw [HP.out.ca.1]
  obtain ⟨a5, c5, hv5, hs5⟩ := ho.slc
  subst hv5
  clear ho
  have S5 := Lib.hid (hs5)
  clear hs5
  go_wp2_with fail
  refine (can_any a2 c2 m s to _ S2.out HOm.out).mono ?_
  rintro e w8 ⟨v6, rfl, ho, hb⟩
  have hS : Below w7.heap.size w7 w8 := Below.step (by repeat' (first | exact Below.refl _ _ | assumption | (with_reducible refine Below.alloc ?_ ?_ _) | (with_reducible refine below_drewN ?_ _) | (with_reducible refine Below.drew ?_) | (with_reducible refine Below.setCell ?_ ?_ _) | go_size)) hb (by go_size)
  replace HS := Lib.hid (Enc.Slc.after HS.out hS)
  replace S2 := Lib.hid (Enc.Slc.after S2.out hS)
  replace S5 := Lib.hid (Enc.Slc.after S5.out hS)
  have hB8 : Below w.heap.size w w8 := hB7.trans (hS.mono hB7.size)
  have hz8 := hB8.size
  clear hS hb hB7
  rw [HP.out.cb.2] at ho
  rw [HP.out.cb.1]
  obtain ⟨a6, c6, hv6, hs6⟩ := ho.slc
  subst hv6
  clear ho
  have S6 := Lib.hid (hs6)
  clear hs6
  clear S2
  go_wp2_with fail
  refine (equal_ents a5 c5 l a c l _ S5.out HS.out).mono ?_
  rintro e w9 ⟨rfl, hb⟩
  have hS : Below w8.heap.size w8 w9 := Below.step (by repeat' (first | exact Below.refl _ _ | assumption | (with_reducible refine Below.alloc ?_ ?_ _) | (with_reducible refine below_drewN ?_ _) | (with_reducible refine Below.drew ?_) | (with_reducible refine Below.setCell ?_ ?_ _) | go_size)) hb (by go_size)
  replace HS := Lib.hid (Enc.Slc.after HS.out hS)
  replace S5 := Lib.hid (Enc.Slc.after S5.out hS)
  replace S6 := Lib.hid (Enc.Slc.after S6.out hS)
  have hB9 : Below w.heap.size w w9 := hB8.trans (hS.mono hB8.size)
  have hz9 := hB9.size
  clear hS hb hB8
  rw [decide_eq_true rfl]
  go_wp2_with fail
  refine (equal_ents a6 c6 l a c l _ S6.out HS.out).mono ?_
  rintro e w10 ⟨rfl, hb⟩
  have hS : Below w9.heap.size w9 w10 := Below.step (by repeat' (first | exact Below.refl _ _ | assumption | (with_reducible refine Below.alloc ?_ ?_ _) | (with_reducible refine below_drewN ?_ _) | (with_reducible refine Below.drew ?_) | (with_reducible refine Below.setCell ?_ ?_ _) | go_size)) hb (by go_size)
  replace HS := Lib.hid (Enc.Slc.after HS.out hS)
  replace S5 := Lib.hid (Enc.Slc.after S5.out hS)
  replace S6 := Lib.hid (Enc.Slc.after S6.out hS)
  have hB10 : Below w.heap.size w w10 := hB9.trans (hS.mono hB9.size)
  have hz10 := hB10.size
  clear hS hb hB9
  rw [decide_eq_true rfl]
  go_wp2_with fail
  go_returns
  exact ⟨rfl, hB10⟩
theorem passes_any (a : Option Addr) (c : Nat) (l : List OEntry) (s by_ to other : ByteArray) (w : World) (hs : entE.Slc w a c l) (hok : EntsOk l) (ht : to.size ≤ maxLen) :
    Calls Try.prog 3 #[.slice a l.length c, .string s, .string by_, .string to, .string other] w fun e w' => e = .returned (.bool true) ∧ Below w.heap.size w w' := by
  by_cases h : chE l s (fun x => ofrE x by_ to) = 0
  · obtain ⟨m, n, hM, hP, hOm, hOn⟩ := passes_math h hok ht
    refine passes_ok a c l s by_ to other w hs hok ht m n h hM hP hOm hOn _ rfl ?_
    by_cases ho : other = to
    · rw [str_same ho, (hP.ot other).2 ho]; rfl
    · rw [str_diff ho]
      have := fun h => ho ((hP.ot other).1 h)
      simpa using this
  · exact passes_err a c l s by_ to other w hs hok ht _ rfl h

end Go.Proofs.Ytekjoddmohjpbaa
