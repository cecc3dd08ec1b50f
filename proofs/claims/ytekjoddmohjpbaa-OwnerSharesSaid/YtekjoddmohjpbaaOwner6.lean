/- What End, Accept, Cancel and Offer of package owner return. -/
import Derived.Test.YtekjoddmohjpbaaOwner5
set_option linter.unusedVariables false
set_option linter.unusedSimpArgs false
namespace Go.Proofs.Ytekjoddmohjpbaa
open Go.RowKit
attribute [local go_sem ↓] Go.wp_at_zero Go.wp_at_succ

set_option maxRecDepth 100000 in
set_option maxHeartbeats 1000000 in
theorem end_any (a : Option Addr) (c : Nat) (l : List OEntry) (s by_ : ByteArray) (w : World) (hs : entE.Slc w a c l) (hok : EntsOk l) :
    Calls Try.prog 20 #[.slice a l.length c, .string s, .string by_] w fun e w' => ∃ v, e = .returned (.tuple #[v, .int .i64 (chE l s (fun x => endE x by_))]) ∧ entE.Own w' w.heap.size 32 v (chL l s (fun x => endE x by_) endX) ∧ Below w.heap.size w w' := by
  have HS := Lib.hid hs; have HOk := Lib.hid hok; clear hs hok
  go_enter Try.func20, Try.ntmps20
  go_wp2_with fail
  refine (changed_end a c l s _ (fun x => endE x by_) endX _ (HS.out.after (by repeat' (first | exact Below.refl _ _ | assumption | (with_reducible refine Below.alloc ?_ ?_ _) | (with_reducible refine below_drewN ?_ _) | (with_reducible refine Below.drew ?_) | (with_reducible refine Below.setCell ?_ ?_ _) | go_size))) HOk.out (fun W base g cap i hi hW ho hg => endc_any base g _ cap l i by_ w.heap.size W ho rfl hi ((Blk.new w _).below hW (by simp)))).mono ?_
  rintro e w1 ⟨v, rfl, ho, hb⟩
  have hB : Below w.heap.size w w1 := Below.step (by repeat' (first | exact Below.refl _ _ | assumption | (with_reducible refine Below.alloc ?_ ?_ _) | (with_reducible refine below_drewN ?_ _) | (with_reducible refine Below.drew ?_) | (with_reducible refine Below.setCell ?_ ?_ _) | go_size)) hb (by go_size)
  have HO := Lib.hid (ho.base (base' := w.heap.size) (by go_size))
  clear hb ho
  go_wp2_with fail
  go_returns
  exact ⟨_, rfl, HO.out, hB⟩

set_option maxRecDepth 100000 in
set_option maxHeartbeats 1000000 in
theorem acc_any (a : Option Addr) (c : Nat) (l : List OEntry) (s by_ : ByteArray) (w : World) (hs : entE.Slc w a c l) (hok : EntsOk l) :
    Calls Try.prog 9 #[.slice a l.length c, .string s, .string by_] w fun e w' => ∃ v, e = .returned (.tuple #[v, .int .i64 (chE l s (fun x => accE x by_))]) ∧ entE.Own w' w.heap.size 32 v (chL l s (fun x => accE x by_) (fun x => accX x by_)) ∧ Below w.heap.size w w' := by
  have HS := Lib.hid hs; have HOk := Lib.hid hok; clear hs hok
  go_enter Try.func9, Try.ntmps9
  go_wp2_with fail
  refine (changed_acc a c l s _ (fun x => accE x by_) (fun x => accX x by_) _ (HS.out.after (by repeat' (first | exact Below.refl _ _ | assumption | (with_reducible refine Below.alloc ?_ ?_ _) | (with_reducible refine below_drewN ?_ _) | (with_reducible refine Below.drew ?_) | (with_reducible refine Below.setCell ?_ ?_ _) | go_size))) HOk.out (fun W base g cap i hi hW ho hg => accc_any base g _ cap l i by_ w.heap.size W ho rfl hi ((Blk.new w _).below hW (by simp)))).mono ?_
  rintro e w1 ⟨v, rfl, ho, hb⟩
  have hB : Below w.heap.size w w1 := Below.step (by repeat' (first | exact Below.refl _ _ | assumption | (with_reducible refine Below.alloc ?_ ?_ _) | (with_reducible refine below_drewN ?_ _) | (with_reducible refine Below.drew ?_) | (with_reducible refine Below.setCell ?_ ?_ _) | go_size)) hb (by go_size)
  have HO := Lib.hid (ho.base (base' := w.heap.size) (by go_size))
  clear hb ho
  go_wp2_with fail
  go_returns
  exact ⟨_, rfl, HO.out, hB⟩

set_option maxRecDepth 100000 in
set_option maxHeartbeats 1000000 in
theorem can_any (a : Option Addr) (c : Nat) (l : List OEntry) (s by_ : ByteArray) (w : World) (hs : entE.Slc w a c l) (hok : EntsOk l) :
    Calls Try.prog 10 #[.slice a l.length c, .string s, .string by_] w fun e w' => ∃ v, e = .returned (.tuple #[v, .int .i64 (chE l s (fun x => canE x by_))]) ∧ entE.Own w' w.heap.size 32 v (chL l s (fun x => canE x by_) canX) ∧ Below w.heap.size w w' := by
  have HS := Lib.hid hs; have HOk := Lib.hid hok; clear hs hok
  go_enter Try.func10, Try.ntmps10
  go_wp2_with fail
  refine (changed_can a c l s _ (fun x => canE x by_) canX _ (HS.out.after (by repeat' (first | exact Below.refl _ _ | assumption | (with_reducible refine Below.alloc ?_ ?_ _) | (with_reducible refine below_drewN ?_ _) | (with_reducible refine Below.drew ?_) | (with_reducible refine Below.setCell ?_ ?_ _) | go_size))) HOk.out (fun W base g cap i hi hW ho hg => canc_any base g _ cap l i by_ w.heap.size W ho rfl hi ((Blk.new w _).below hW (by simp)))).mono ?_
  rintro e w1 ⟨v, rfl, ho, hb⟩
  have hB : Below w.heap.size w w1 := Below.step (by repeat' (first | exact Below.refl _ _ | assumption | (with_reducible refine Below.alloc ?_ ?_ _) | (with_reducible refine below_drewN ?_ _) | (with_reducible refine Below.drew ?_) | (with_reducible refine Below.setCell ?_ ?_ _) | go_size)) hb (by go_size)
  have HO := Lib.hid (ho.base (base' := w.heap.size) (by go_size))
  clear hb ho
  go_wp2_with fail
  go_returns
  exact ⟨_, rfl, HO.out, hB⟩

set_option maxRecDepth 100000 in
set_option maxHeartbeats 1000000 in
theorem ofr_any (a : Option Addr) (c : Nat) (l : List OEntry) (s by_ to : ByteArray) (w : World) (hs : entE.Slc w a c l) (hok : EntsOk l) (hto : to.size ≤ maxLen) :
    Calls Try.prog 7 #[.slice a l.length c, .string s, .string by_, .string to] w fun e w' => ∃ v, e = .returned (.tuple #[v, .int .i64 (chE l s (fun x => ofrE x by_ to))]) ∧ entE.Own w' w.heap.size 32 v (chL l s (fun x => ofrE x by_ to) (fun x => ofrX x to)) ∧ Below w.heap.size w w' := by
  have HS := Lib.hid hs; have HOk := Lib.hid hok; clear hs hok
  go_enter Try.func7, Try.ntmps7
  go_wp2_with fail
  refine (changed_ofr a c l s _ _ (fun x => ofrE x by_ to) (fun x => ofrX x to) _ (HS.out.after (by repeat' (first | exact Below.refl _ _ | assumption | (with_reducible refine Below.alloc ?_ ?_ _) | (with_reducible refine below_drewN ?_ _) | (with_reducible refine Below.drew ?_) | (with_reducible refine Below.setCell ?_ ?_ _) | go_size))) HOk.out (fun W base g cap i hi hW ho hg => ofrc_any base g _ cap l i by_ to w.heap.size (w.heap.size + 1) W ho rfl hi (((Blk.new w _).alloc _).below hW (by simp; omega)) ((Blk.newAt _ _ _ (by simp)).below hW (by simp)) hto)).mono ?_
  rintro e w1 ⟨v, rfl, ho, hb⟩
  have hB : Below w.heap.size w w1 := Below.step (by repeat' (first | exact Below.refl _ _ | assumption | (with_reducible refine Below.alloc ?_ ?_ _) | (with_reducible refine below_drewN ?_ _) | (with_reducible refine Below.drew ?_) | (with_reducible refine Below.setCell ?_ ?_ _) | go_size)) hb (by go_size)
  have HO := Lib.hid (ho.base (base' := w.heap.size) (by go_size))
  clear hb ho
  go_wp2_with fail
  go_returns
  exact ⟨_, rfl, HO.out, hB⟩

end Go.Proofs.Ytekjoddmohjpbaa
