/- FlowUses returns true at every input: the walk. -/
import Derived.Test.YtfhcciepaangiaaFlowUsesMath
set_option linter.unusedVariables false
set_option linter.unusedSimpArgs false
namespace Go.Proofs.Ytfhcciepaangiaa
open Go.RowKit
attribute [local go_sem ↓] Go.wp_at_zero Go.wp_at_succ

set_option maxRecDepth 100000 in
set_option maxHeartbeats 4000000 in
theorem fuses_any (a : Option Addr) (n c : Nat) (F T M : Nat → Int) (at_ : Option Addr) (nt ct : Nat) (z : Nat → Int) (w : World) (hm : n ≤ maxLen) (hnil : a = none → n = 0) (hR : CapsAt w a n F T M) (hmt : nt ≤ maxLen) (hRt : IntsAt w at_ nt z) :
    Calls Try.prog 3 #[.slice a n c, .slice at_ nt ct] w fun e w' => e = .returned (.bool true) ∧ Below w.heap.size w w' := by
  have HRow := Lib.hid hR; clear hR
  have HRt := Lib.hid hRt; clear hRt
  have HNil := Lib.hid hnil; clear hnil
  have HM := Lib.hid hm
  have HMt := Lib.hid hmt
  obtain ⟨i0, hi, hz0, hz1, hz2⟩ := info_parts info_int
  go_enter Try.func3, Try.ntmps3
  go_wp2_with fail
  refine (ffact_any _).mono ?_
  rintro e wa ⟨rfl, hba⟩
  have hza := hba.size
  go_wp2_with fail
  refine (fcheck_any a n c F T M _ hm (HRow.out.below hba (Nat.le_refl _))).mono ?_
  rintro e wb ⟨rfl, hbb⟩
  have hBb := hba.trans (hbb.mono hza)
  have hzb := hBb.size
  clear hba hbb hza
  unfold maxLen at hm hmt
  generalize hk : fchk n F T M = k
  by_cases h0 : k = 0
  · subst h0
    have hn := (fchk_good hk).1
    have HK := Lib.hid hk; clear hk
    by_cases hbig : 60 < nt
    · have hd : decide (60 < nt) = true := by simpa using hbig
      go_wp2_with fail
      go_returns
      exact ⟨rfl, hBb⟩
    have hd : decide (60 < nt) = false := by simpa using hbig
    have hnt : nt ≤ 60 := by omega
    clear hbig
    go_wp2_with fail
    go_loopw [5, 6, 30] (fun l u i wr => ∃ j : Nat, j ≤ nt ∧ i = .int .i64 j ∧ ∃ (a' : Option Addr) (c' : Nat) (M' : Nat → Int) (us : List Int), l = .slice a' n c' ∧ Hid (CapsAt wr a' n F T M') ∧ Hid (a' = none → n = 0) ∧ Hid (wr.ownsRow w.heap.size 3 1 u us.length (ints us)) ∧ us.length ≤ j ∧ Hid (UInv n F T M M' us) ∧ Hid (Free n a' u) ∧ Below w.heap.size w wr) (fun _ _ i _ => nt - (intOf i).toNat)
    case atStart => exact ⟨0, by omega, rfl, a, c, M, [], rfl, Lib.hid (HRow.out.below hBb (Nat.le_refl _)), HNil, Lib.hid (World.ownsRow_nil _ _ _ _), by simp, Lib.hid (UInv.start n F T M HK.out), Lib.hid (Free.nil _ _), hBb⟩
    case round =>
      clear hBb hzb
      obtain ⟨j, hj, rfl, a', c', M', us, rfl, HC, HN', HO, hus, HU, HF, hB⟩ := hrel
      have hzr := hB.size
      by_cases hlt : j < nt
      · obtain ⟨b, off, rfl, hbl, hcell⟩ := (HRt.out.below hB (Nat.le_refl _)) (by omega)
        have e1 := int_cell hcell j hlt
        have HCc := Lib.hid hcell; clear hcell
        go_wp2_with fail
        refine (fless_any a' n c' F T M' (z j) _ HM.out HN'.out HC.out).mono ?_
        rintro e w1 ⟨v, rfl, hno, hyes, hb⟩
        have hB1 := hB.trans (hb.mono hzr)
        have hzz := hB1.size
        have HO1 := Lib.hid (ownsRow_after HO.out hb)
        have HNo := Lib.hid hno; have HYes := Lib.hid hyes; clear hno hyes
        generalize hle : lessE n F T M' (z j) = le
        by_cases hl0 : le = 0
        · subst hl0
          have HY := Lib.hid (HYes.out hle)
          have HU2 := Lib.hid (HU.out.next HK.out hle)
          obtain ⟨a2, c2, hv2, -, -, hn2, hC2⟩ := capsL_at HY.out
          subst hv2
          have HC2 := Lib.hid hC2; have HN2 := Lib.hid hn2
          have HF2 := Lib.hid (Free.newer HO.out HY.out)
          clear hle hC2 hn2 hb HNo HYes HC HN' HO
          go_wp2_with (at_builtin; refine wpList_append_lies _ rfl _ _ 23 rfl w.heap.size 3 i0 (.int .i64 0) 1 8 Try.underlying23 hi hz0 hz1 hz2 rfl (by decide) _ us.length (ints us) rfl ?c0 _ 1 1 [.int .i64 (z j)] rfl rfl ?c2 ?c3 (by decide) ?c4 ?c5 ?c6 (w1.heap.size + 1) ?c7 ?_)
          case c0 => exact ownsRow_after HO1.out (by repeat' (first | exact Below.refl _ _ | assumption | (with_reducible refine Below.alloc ?_ ?_ _) | (with_reducible refine below_drewN ?_ _) | (with_reducible refine Below.drew ?_) | (with_reducible refine Below.setCell ?_ ?_ _) | go_size))
          case c2 => exact World.news_of_block (cs := #[.int .i64 (z j)]) (t := 3) (fr := (0, 0)) (by exact Blk.newAt _ _ _ (by first | rfl | (simp; done)))
          case c3 => simp [Value.oneCell']
          case c4 => (unfold maxLen; omega)
          case c5 => omega
          case c6 => go_size
          case c7 => simp
          intro g cap w2 hown2 hgrow hat hlt2
          have hB2 := Below.grown (B := w.heap.size) (a := w) (by repeat' (first | exact Below.refl _ _ | assumption | (with_reducible refine Below.alloc ?_ ?_ _) | (with_reducible refine below_drewN ?_ _) | (with_reducible refine Below.drew ?_) | (with_reducible refine Below.setCell ?_ ?_ _) | go_size)) hgrow (by go_size) (ownsRow_blockBelow HO1.out)
          have hO2 := Lib.hid hown2
          have HG2 := Lib.hid hgrow
          have HAt := Lib.hid hat
          clear hown2 hgrow hat
          go_wp2_with fail
          go_roundw
          case rel =>
            refine ⟨j + 1, by omega, by go_num, a2, c2, lessM n F T M' (z j), us ++ [z j], rfl, Lib.hid (RowAt.grownBy (RowAt.after HC2.out (by repeat' (first | exact Below.refl _ _ | assumption | (with_reducible refine Below.alloc ?_ ?_ _) | (with_reducible refine below_drewN ?_ _) | (with_reducible refine Below.drew ?_) | (with_reducible refine Below.setCell ?_ ?_ _) | go_size))) HG2.out HF2.out), HN2, Lib.hid (by rw [ints_snoc, List.length_append]; exact hO2.out), by simp; omega, HU2, Lib.hid (HF2.out.lies HC2.out (HAt.out.imp id (fun h => by omega))), hB2⟩
          case measure => simp [intOf]; omega
        · have hk' : (le != 0) = true := by simpa using hl0
          have hv := HNo.out (by rw [hle]; exact hl0)
          subst hv
          have HC1 := Lib.hid (RowAt.after HC.out hb)
          clear hle hb HNo HYes HC HO
          have H0 := Lib.hid hl0; clear hl0
          go_wp2_with fail
          go_roundw
          case rel => exact ⟨j + 1, by omega, by go_num, a', c', M', us, rfl, HC1, HN', HO1, by omega, HU, HF, hB1⟩
          case measure => simp [intOf]; omega
      · obtain ⟨au, cu, hv, hcu1, hcu2, -, hIu⟩ := ints_at HO.out
        subst hv
        have HI := Lib.hid hIu; clear hIu HO
        unfold maxLen at hcu2
        go_wp2_with fail
        refine (fover_any a n c F T M au us.length cu (nth us) _ HM.out (HRow.out.below hB (Nat.le_refl _)) (by unfold maxLen; omega) HI.out).mono ?_
        rintro e w1 ⟨v, rfl, ho, hb⟩
        rw [HU.out.over] at ho
        rw [HU.out.dem HK.out (by omega)]
        obtain ⟨av, cv, hv, -, -, -, -⟩ := ints_at ho
        subst hv
        have hB1 := hB.trans (hb.mono hzr)
        have hzz := hB1.size
        have HC1 := Lib.hid (RowAt.after HC.out hb)
        clear hb ho HC HI hB
        go_wp2_with fail
        refine (froom_any a n c F T M 0 _ HM.out (HRow.out.below hB1 (Nat.le_refl _))).mono ?_
        rintro e w2 ⟨rfl, hb⟩
        have hB2 := hB1.trans (hb.mono hzz)
        have hzz2 := hB2.size
        have HC2 := Lib.hid (RowAt.after HC1.out hb)
        clear hb HC1 hB1
        rw [HK.out]
        go_wp2_with fail
        refine (froom_any a' n c' F T M' 0 _ HM.out HC2.out).mono ?_
        rintro e w3 ⟨rfl, hb⟩
        have hB3 := hB2.trans (hb.mono hzz2)
        clear hb HC2 hB2
        rw [HU.out.ok HK.out]
        have hroom := HU.out.room HK.out
        generalize roomN n F T M 0 = ra at hroom ⊢
        generalize roomN n F T M' 0 = rb at hroom ⊢
        have hq : (ra - rb == (us.length : Int)) = true := by rw [hroom]; simp
        have hq1 : IntKind.i64.wrap (ra - rb) = ra - rb := IntWalk.i64_in _ (by omega)
        have HQ := Lib.hid hroom; clear hroom
        go_wp2_with fail
        go_returns
        exact ⟨rfl, hB3⟩
  · have hk' : (k != 0) = true := by simpa using h0
    have H0 := Lib.hid h0; clear h0 hk
    go_wp2_with fail
    go_returns
    exact ⟨rfl, hBb⟩

end Go.Proofs.Ytfhcciepaangiaa
