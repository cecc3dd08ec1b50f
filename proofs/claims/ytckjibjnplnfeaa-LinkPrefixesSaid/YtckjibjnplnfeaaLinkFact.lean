/- linkFact returns true. -/
import Derived.Test.YtckjibjnplnfeaaLink3
import Derived.Test.YtckjibjnplnfeaaLink4
import Derived.Test.YtckjibjnplnfeaaLink5
set_option linter.unusedVariables false
set_option linter.unusedSimpArgs false
namespace Go.Proofs.Ytckjibjnplnfeaa
open Go.RowKit
attribute [local go_sem ↓] Go.wp_at_zero Go.wp_at_succ

set_option maxRecDepth 100000 in
set_option maxHeartbeats 4000000 in
theorem lfact_any (w : World) : Calls Try.prog 5 #[] w fun e w' => e = .returned (.bool true) ∧ Below w.heap.size w w' := by
  go_enter Try.func5, Try.ntmps5
  go_wp2_with fail
  refine (begin_any _).mono ?_
  rintro e w1 ⟨rfl, hb⟩
  have hS : Below w.heap.size w w1 := Below.step (by repeat' (first | exact Below.refl _ _ | assumption | (with_reducible refine Below.alloc ?_ ?_ _) | (with_reducible refine below_drewN ?_ _) | (with_reducible refine Below.drew ?_) | (with_reducible refine Below.setCell ?_ ?_ _) | go_size)) hb (by go_size)
  have hB1 : Below w.heap.size w w1 := hS
  have hz1 := hB1.size
  clear hS hb
  go_wp2_with fail
  refine (put_any 1 none 0 [] ⟨#[97]⟩ _ (Enc.Slc.nil _ _) (fun t h => by simp at h) (by decide)).mono ?_
  rintro e w2 ⟨v1, rfl, ho, hb⟩
  have hS : Below w1.heap.size w1 w2 := Below.step (by repeat' (first | exact Below.refl _ _ | assumption | (with_reducible refine Below.alloc ?_ ?_ _) | (with_reducible refine below_drewN ?_ _) | (with_reducible refine Below.drew ?_) | (with_reducible refine Below.setCell ?_ ?_ _) | go_size)) hb (by go_size)
  have hB2 : Below w.heap.size w w2 := hB1.trans (hS.mono hB1.size)
  have hz2 := hB2.size
  clear hS hb hB1
  rw [show putW 1 [] ⟨#[97]⟩ = [⟨#[97]⟩] by decide] at ho
  rw [show putE 1 [] ⟨#[97]⟩ = 0 by decide, show putB 1 [] ⟨#[97]⟩ = 1 by decide]
  obtain ⟨a1, c1, hv1, hs1⟩ := ho.slc
  subst hv1
  clear ho
  have S1 := Lib.hid (hs1)
  clear hs1
  go_wp2_with fail
  refine (put_any 1 a1 c1 [⟨#[97]⟩] ⟨#[98]⟩ _ (S1.out.after (by repeat' (first | exact Below.refl _ _ | assumption | (with_reducible refine Below.alloc ?_ ?_ _) | (with_reducible refine below_drewN ?_ _) | (with_reducible refine Below.drew ?_) | (with_reducible refine Below.setCell ?_ ?_ _) | go_size))) (fun t h => by simp at h; subst h; decide) (by decide)).mono ?_
  rintro e w3 ⟨v2, rfl, ho, hb⟩
  have Bs := Lib.hid (Blk.after (Blk.new w2 (.cells #[.int .i64 1, .slice a1 1 c1] 26)) hb)
  have hzs := hb.size
  simp only [World.size_alloc] at hzs
  have hS : Below w2.heap.size w2 w3 := Below.step (by repeat' (first | exact Below.refl _ _ | assumption | (with_reducible refine Below.alloc ?_ ?_ _) | (with_reducible refine below_drewN ?_ _) | (with_reducible refine Below.drew ?_) | (with_reducible refine Below.setCell ?_ ?_ _) | go_size)) hb (by go_size)
  replace S1 := Lib.hid (Enc.Slc.after S1.out hS)
  have hB3 : Below w.heap.size w w3 := hB2.trans (hS.mono hB2.size)
  have hz3 := hB3.size
  clear hS hb hB2
  clear S1
  rw [show putW 1 [⟨#[97]⟩] ⟨#[98]⟩ = [⟨#[97]⟩, ⟨#[98]⟩] by decide] at ho
  rw [show putE 1 [⟨#[97]⟩] ⟨#[98]⟩ = 0 by decide, show putB 1 [⟨#[97]⟩] ⟨#[98]⟩ = 1 by decide]
  obtain ⟨a2, c2, hv2, -⟩ := ho.slc
  subst hv2
  obtain ⟨lb, b0, b1, fb0, fb1⟩ := Bs.out.two
  go_wp2_with fail
  have O2 := Lib.hid (show strE.Own ((w3.setCell ⟨w2.heap.size, 0, none⟩ (.int .i64 1)).setCell ⟨w2.heap.size, 1, none⟩ (.slice a2 2 c2)) _ 9 (.slice a2 2 c2) [⟨#[97]⟩, ⟨#[98]⟩] from ownsRow_setCell_below (ownsRow_setCell_below ho (by simp) _) (by simp) _)
  replace Bs := Lib.hid ((Bs.out.set 0 (.int .i64 1)).set 1 (.slice a2 2 c2))
  have hB4 := (hB3.setCell (p := ⟨w2.heap.size, 0, none⟩) hz2 (.int .i64 1)).setCell (p := ⟨w2.heap.size, 1, none⟩) hz2 (.slice a2 2 c2)
  clear b0 b1 fb0 fb1 lb hB3 ho
  generalize (w3.setCell ⟨w2.heap.size, 0, none⟩ (.int .i64 1)).setCell ⟨w2.heap.size, 1, none⟩ (.slice a2 2 c2) = w4 at Bs O2 hB4 ⊢
  have hz4 := hB4.size
  obtain ⟨a2', c2', hv2, hs2⟩ := O2.out.slc
  simp only [Value.slice.injEq] at hv2
  obtain ⟨rfl, -, rfl⟩ := hv2
  clear O2
  obtain ⟨lb, b0, b1, -, -⟩ := Bs.out.two
  have S2 := Lib.hid (hs2)
  clear hs2
  refine (frames_any 1 a2 c2 [⟨#[97]⟩, ⟨#[98]⟩] _ S2.out (fun t h => by simp at h; rcases h with rfl | rfl <;> decide)).mono ?_
  rintro e w5 ⟨v3, rfl, ho, hb⟩
  clear lb b0 b1
  have hS : Below w4.heap.size w4 w5 := Below.step (by repeat' (first | exact Below.refl _ _ | assumption | (with_reducible refine Below.alloc ?_ ?_ _) | (with_reducible refine below_drewN ?_ _) | (with_reducible refine Below.drew ?_) | (with_reducible refine Below.setCell ?_ ?_ _) | go_size)) hb (by go_size)
  replace S2 := Lib.hid (Enc.Slc.after S2.out hS)
  replace Bs := Lib.hid (Blk.after Bs.out hS)
  have hB5 : Below w.heap.size w w5 := hB4.trans (hS.mono hB4.size)
  have hz5 := hB5.size
  clear hS hb hB4
  obtain ⟨lb, b0, b1, -, -⟩ := Bs.out.two
  rw [show framesL 1 [⟨#[97]⟩, ⟨#[98]⟩] = [⟨1, ⟨#[97]⟩⟩, ⟨2, ⟨#[98]⟩⟩] by decide] at ho
  rw [show lchk 1 [⟨#[97]⟩, ⟨#[98]⟩] = 0 by decide]
  obtain ⟨a3, c3, hv3, hs3⟩ := ho.slc
  subst hv3
  clear ho
  have S3 := Lib.hid (hs3)
  clear hs3
  go_wp2_with fail
  refine (take_any 1 1 ⟨#[97]⟩ _ (by decide)).mono ?_
  rintro e w6 ⟨rfl, hb⟩
  clear lb b0 b1
  have hS : Below w5.heap.size w5 w6 := Below.step (by repeat' (first | exact Below.refl _ _ | assumption | (with_reducible refine Below.alloc ?_ ?_ _) | (with_reducible refine below_drewN ?_ _) | (with_reducible refine Below.drew ?_) | (with_reducible refine Below.setCell ?_ ?_ _) | go_size)) hb (by go_size)
  replace S2 := Lib.hid (Enc.Slc.after S2.out hS)
  replace Bs := Lib.hid (Blk.after Bs.out hS)
  replace S3 := Lib.hid (Enc.Slc.after S3.out hS)
  have hB6 : Below w.heap.size w w6 := hB5.trans (hS.mono hB5.size)
  have hz6 := hB6.size
  clear hS hb hB5
  obtain ⟨lb, b0, b1, -, -⟩ := Bs.out.two
  rw [show takeR 1 ⟨1, ⟨#[97]⟩⟩ = (2, true, 0) by decide]
  go_wp2_with fail
  refine (heard_any 1 a2 c2 [⟨#[97]⟩, ⟨#[98]⟩] 2 _ S2.out (fun t h => by simp at h; rcases h with rfl | rfl <;> decide)).mono ?_
  rintro e w7 ⟨v4, rfl, ho, hb⟩
  clear lb b0 b1
  have hS : Below w6.heap.size w6 w7 := Below.step (by repeat' (first | exact Below.refl _ _ | assumption | (with_reducible refine Below.alloc ?_ ?_ _) | (with_reducible refine below_drewN ?_ _) | (with_reducible refine Below.drew ?_) | (with_reducible refine Below.setCell ?_ ?_ _) | go_size)) hb (by go_size)
  replace S2 := Lib.hid (Enc.Slc.after S2.out hS)
  replace Bs := Lib.hid (Blk.after Bs.out hS)
  replace S3 := Lib.hid (Enc.Slc.after S3.out hS)
  have hB7 : Below w.heap.size w w7 := hB6.trans (hS.mono hB6.size)
  have hz7 := hB7.size
  clear hS hb hB6
  rw [show heardW 1 [⟨#[97]⟩, ⟨#[98]⟩] 2 = [⟨#[98]⟩] by decide] at ho
  rw [show heardE 1 [⟨#[97]⟩, ⟨#[98]⟩] 2 = 0 by decide, show heardB 1 [⟨#[97]⟩, ⟨#[98]⟩] 2 = 2 by decide]
  obtain ⟨a4, c4, hv4, hs4⟩ := ho.slc
  subst hv4
  clear ho
  have S4 := Lib.hid (hs4)
  clear hs4
  clear S2
  clear Bs
  have S3c := S3
  have S4c := S4
  clear S3 S4
  go_wp2_with fail
  refine (new_any _).mono ?_
  rintro e w8 ⟨rfl, hc, hb⟩
  have Bt := Lib.hid (Blk.after (Blk.new w7 (.cells #[.int .i64 2, .slice a4 1 c4] 26)) hb)
  simp only [World.size_alloc] at hc
  have HC := Lib.hid hc
  clear hc
  have hzn := hb.size
  simp only [World.size_alloc] at hzn
  have hK7 : Below w7.heap.size w7 w8 := Below.step (by repeat' (first | exact Below.refl _ _ | assumption | (with_reducible refine Below.alloc ?_ ?_ _) | (with_reducible refine below_drewN ?_ _) | (with_reducible refine Below.drew ?_) | (with_reducible refine Below.setCell ?_ ?_ _) | go_size)) hb (by go_size)
  have hS : Below w7.heap.size w7 w8 := Below.step (by repeat' (first | exact Below.refl _ _ | assumption | (with_reducible refine Below.alloc ?_ ?_ _) | (with_reducible refine below_drewN ?_ _) | (with_reducible refine Below.drew ?_) | (with_reducible refine Below.setCell ?_ ?_ _) | go_size)) hb (by go_size)
  have hB8 : Below w.heap.size w w8 := hB7.trans (hS.mono hB7.size)
  have hz8 := hB8.size
  clear hS hb hB7
  go_wp2_with fail
  refine (lcheck_any 0 none 0 [] _ (Enc.Slc.nil _ _) (fun t h => by simp at h)).mono ?_
  rintro e w9 ⟨rfl, hb⟩
  replace hK7 : Below w7.heap.size w7 w9 := hK7.trans ((Below.step (B := w8.heap.size) (by repeat' (first | exact Below.refl _ _ | assumption | (with_reducible refine Below.alloc ?_ ?_ _) | (with_reducible refine below_drewN ?_ _) | (with_reducible refine Below.drew ?_) | (with_reducible refine Below.setCell ?_ ?_ _) | go_size)) hb (by go_size)).mono (by omega))
  have hS : Below w8.heap.size w8 w9 := Below.step (by repeat' (first | exact Below.refl _ _ | assumption | (with_reducible refine Below.alloc ?_ ?_ _) | (with_reducible refine below_drewN ?_ _) | (with_reducible refine Below.drew ?_) | (with_reducible refine Below.setCell ?_ ?_ _) | go_size)) hb (by go_size)
  replace Bt := Lib.hid (Blk.after Bt.out hS)
  replace HC := Lib.hid (ChanAt.after HC.out hS)
  have hB9 : Below w.heap.size w w9 := hB8.trans (hS.mono hB8.size)
  have hz9 := hB9.size
  clear hS hb hB8
  rw [show lchk 0 [] = 4 by decide]
  have Btc := Bt
  clear Bt
  go_wp2_with fail
  refine (send_any (w7.heap.size + 1) [] ⟨#[97]⟩ _ HC.out (by decide) (by decide)).mono ?_
  rintro e w10 ⟨rfl, hc, hb⟩
  clear HC
  have HC := Lib.hid hc
  clear hc
  have hK10 : Below (w7.heap.size + 1) w9 w10 := hb
  clear hb
  go_wp2_with fail
  refine (send_any (w7.heap.size + 1) [⟨#[97]⟩] ⟨#[98]⟩ _ HC.out (by decide) (by decide)).mono ?_
  rintro e w11 ⟨rfl, hc, hb⟩
  clear HC
  have HC := Lib.hid hc
  clear hc
  have hK11 : Below (w7.heap.size + 1) w9 w11 := hK10.trans hb
  clear hK10
  clear hb
  go_wp2_with fail
  refine (deliver_any (w7.heap.size + 1) [⟨#[97]⟩, ⟨#[98]⟩] 1 _ HC.out (by decide)).mono ?_
  rintro e w12 ⟨rfl, hc, hb⟩
  clear HC
  have HC := Lib.hid hc
  clear hc
  have hK12 : Below (w7.heap.size + 1) w9 w12 := hK11.trans hb
  clear hK11
  clear hb
  rw [show el [(⟨#[97]⟩ : ByteArray), ⟨#[98]⟩] 1 = ⟨#[98]⟩ from rfl]
  go_wp2_with fail
  refine (twice_any (w7.heap.size + 1) [⟨#[97]⟩] 0 _ HC.out (by decide) (by decide) (by decide)).mono ?_
  rintro e w13 ⟨rfl, hc, hb⟩
  clear HC
  have HC := Lib.hid hc
  clear hc
  have hK13 : Below (w7.heap.size + 1) w9 w13 := hK12.trans hb
  clear hK12
  clear hb
  have hB13 : Below w.heap.size w w13 := hB9.trans (hK13.mono (by omega))
  have hz13 := hB13.size
  have S3 := Lib.hid (S3c.out.below (hK7.trans (hK13.mono (by omega))) (Nat.le_refl _))
  have S4 := Lib.hid (S4c.out.below (hK7.trans (hK13.mono (by omega))) (Nat.le_refl _))
  have Bt := Lib.hid (Btc.out.below hK13 (by omega))
  clear S3c S4c Btc hK13 hK7 hB9
  go_wp2_with fail
  refine (equal_frames _ _ [⟨1, ⟨#[97]⟩⟩, ⟨2, ⟨#[98]⟩⟩] _ _ [⟨1, ⟨#[97]⟩⟩, ⟨2, ⟨#[98]⟩⟩] _ (S3.out.after (by repeat' (first | exact Below.refl _ _ | assumption | (with_reducible refine Below.alloc ?_ ?_ _) | (with_reducible refine below_drewN ?_ _) | (with_reducible refine Below.drew ?_) | (with_reducible refine Below.setCell ?_ ?_ _) | go_size))) (Enc.Slc.block (Blk.newAt _ _ _ rfl) rfl (by decide))).mono ?_
  rintro e w14 ⟨rfl, hb⟩
  have hS : Below w13.heap.size w13 w14 := Below.step (by repeat' (first | exact Below.refl _ _ | assumption | (with_reducible refine Below.alloc ?_ ?_ _) | (with_reducible refine below_drewN ?_ _) | (with_reducible refine Below.drew ?_) | (with_reducible refine Below.setCell ?_ ?_ _) | go_size)) hb (by go_size)
  replace S3 := Lib.hid (Enc.Slc.after S3.out hS)
  replace S4 := Lib.hid (Enc.Slc.after S4.out hS)
  replace Bt := Lib.hid (Blk.after Bt.out hS)
  replace HC := Lib.hid (ChanAt.after HC.out hS)
  have hB14 : Below w.heap.size w w14 := hB13.trans (hS.mono hB13.size)
  have hz14 := hB14.size
  clear hS hb hB13
  rw [decide_eq_true rfl]
  clear S3
  obtain ⟨lt, t0, t1, -, -⟩ := Bt.out.two
  go_wp2_with fail
  refine (equal_strs _ _ [⟨#[98]⟩] _ _ [⟨#[98]⟩] _ (S4.out.after (by repeat' (first | exact Below.refl _ _ | assumption | (with_reducible refine Below.alloc ?_ ?_ _) | (with_reducible refine below_drewN ?_ _) | (with_reducible refine Below.drew ?_) | (with_reducible refine Below.setCell ?_ ?_ _) | go_size))) (Enc.Slc.block (Blk.newAt _ _ _ rfl) rfl (by decide))).mono ?_
  rintro e w15 ⟨rfl, hb⟩
  clear lt t0 t1
  have hS : Below w14.heap.size w14 w15 := Below.step (by repeat' (first | exact Below.refl _ _ | assumption | (with_reducible refine Below.alloc ?_ ?_ _) | (with_reducible refine below_drewN ?_ _) | (with_reducible refine Below.drew ?_) | (with_reducible refine Below.setCell ?_ ?_ _) | go_size)) hb (by go_size)
  replace S4 := Lib.hid (Enc.Slc.after S4.out hS)
  replace Bt := Lib.hid (Blk.after Bt.out hS)
  replace HC := Lib.hid (ChanAt.after HC.out hS)
  have hB15 : Below w.heap.size w w15 := hB14.trans (hS.mono hB14.size)
  have hz15 := hB15.size
  clear hS hb hB14
  rw [decide_eq_true rfl]
  clear S4
  clear Bt
  go_wp2_with fail
  refine (len_any (w7.heap.size + 1) [⟨#[97]⟩, ⟨#[97]⟩] _ HC.out).mono ?_
  rintro e wl ⟨rfl, rfl⟩
  go_wp2_with fail
  refine (lose_out (w7.heap.size + 1) [⟨#[97]⟩, ⟨#[97]⟩] 2 _ HC.out (by decide) (by decide)).mono ?_
  rintro e wl ⟨rfl, rfl⟩
  go_wp2_with fail
  go_returns
  exact ⟨rfl, hB15⟩

end Go.Proofs.Ytckjibjnplnfeaa
