/- OwnerShares returns true at every input: the walk. -/
import Derived.Test.YtekjoddmohjpbaaOwner16
import Derived.Test.YtekjoddmohjpbaaOwnerFact
set_option linter.unusedVariables false
set_option linter.unusedSimpArgs false
namespace Go.Proofs.Ytekjoddmohjpbaa
open Go.RowKit
attribute [local go_sem ↓] Go.wp_at_zero Go.wp_at_succ

set_option maxRecDepth 100000 in
set_option maxHeartbeats 4000000 in
theorem shares_err (a : Option Addr) (c : Nat) (l : List OEntry) (w : World) (hs : entE.Slc w a c l) (hok : EntsOk l) (e0 : Int) (h0 : ochk l = e0) (he : e0 ≠ 0) :
    Calls Try.prog 4 #[.slice a l.length c] w fun e w' => e = .returned (.bool true) ∧ Below w.heap.size w w' := by
  have d1 : (e0 != 0) = true := by simpa using he
  have HS := Lib.hid hs; have HOk := Lib.hid hok; have H0 := Lib.hid h0; clear hs hok h0
  have hmx := HS.out.max
  unfold maxLen at hmx
  go_enter Try.func4, Try.ntmps4
  go_wp2_with fail
  refine (ofact_any _).mono ?_
  rintro e w1 ⟨rfl, hb1⟩
  go_wp2_with fail
  refine (ocheck_any a c l _ (HS.out.after hb1) HOk.out).mono ?_
  rintro e w2 ⟨rfl, hb2⟩
  have hB2 := hb1.trans (hb2.mono hb1.size)
  clear hb1 hb2
  rw [H0.out]
  go_wp2_with fail
  go_returns
  exact ⟨rfl, hB2⟩
set_option maxRecDepth 100000 in
set_option maxHeartbeats 8000000 in
theorem shares_ok (a : Option Addr) (c : Nat) (l : List OEntry) (w : World) (hs : entE.Slc w a c l) (hok : EntsOk l) (h0 : ochk l = 0) :
    Calls Try.prog 4 #[.slice a l.length c] w fun e w' => e = .returned (.bool true) ∧ Below w.heap.size w w' := by
  have hle : l.length ≤ 24 := ((ochk_zero l).1 h0).1
  have HS := Lib.hid hs; have HOk := Lib.hid hok; have H0 := Lib.hid h0; clear hs hok h0
  have hmx := HS.out.max
  unfold maxLen at hmx
  go_enter Try.func4, Try.ntmps4
  go_wp2_with fail
  refine (ofact_any _).mono ?_
  rintro e w1 ⟨rfl, hb1⟩
  go_wp2_with fail
  refine (ocheck_any a c l _ (HS.out.after hb1) HOk.out).mono ?_
  rintro e w2 ⟨rfl, hb2⟩
  have hB2 := hb1.trans (hb2.mono hb1.size)
  clear hb1 hb2
  rw [H0.out]
  go_wp2_with fail
  go_loopw [3, 4, 17] (fun d m i wr => ∃ k : Nat, k ≤ l.length ∧ i = .int .i64 k ∧ m = .int .i64 ((cntD l (dnL l k) : Nat) : Int) ∧ Hid (strE.Own wr w.heap.size 9 d (dnL l k)) ∧ Below w.heap.size w wr) (fun _ _ i _ => l.length - (intOf i).toNat)
  case atStart => exact ⟨0, by omega, rfl, rfl, Lib.hid (Enc.Own.nil _ _ _ _), hB2⟩
  case round =>
    obtain ⟨k, hk, rfl, rfl, HO, hBr⟩ := hrel
    have hzr := hBr.size
    have hle2 := cntD_le H0.out k
    by_cases hlt : k < l.length
    · obtain ⟨b, off, rfl, hbl, e1, e2, e3⟩ := entE_cell (HS.out.row.below hBr (Nat.le_refl _)) k hlt
      have HOf := Lib.hid (of_self H0.out hlt)
      have HF := Lib.hid (fl_has H0.out hlt)
      have HN := Lib.hid (dnL_len l k)
      have HQ : Hid (∀ d, strE.Own wr w.heap.size 9 d (dnL l k) → ∀ q, d.ownBlock = some q → w.heap.size ≤ q ∧ q < wr.heap.size) := Lib.hid (fun d h q hq => h.lt q hq)
      have HYN : Hid (((el l k).own ∈ dnL l k → dnL l (k + 1) = dnL l k) ∧ ((el l k).own ∉ dnL l k → dnL l (k + 1) = dnL l k ++ [(el l k).own])) := Lib.hid ⟨dnL_yes, dnL_no⟩
      generalize el l k = x at e1 e2 e3 HOf HF HYN
      obtain ⟨xc, xo, xf⟩ := x
      simp only at e1 e2 e3 HOf HF HYN
      go_wp2_with fail
      refine (of_any (some ⟨b, off, none⟩) c l xc _ (HS.out.below (B := w.heap.size) (by repeat' (first | exact Below.refl _ _ | assumption | (with_reducible refine Below.alloc ?_ ?_ _) | (with_reducible refine below_drewN ?_ _) | (with_reducible refine Below.drew ?_) | (with_reducible refine Below.setCell ?_ ?_ _) | go_size)) (Nat.le_refl _)) HOk.out).mono ?_
      rintro e w3 ⟨rfl, hb⟩
      have Bx := Lib.hid (Blk.after (Blk.new wr (.cells #[.string xc, .string xo, .string xf] 32)) hb)
      have hK : Below wr.heap.size wr w3 := Below.step (by repeat' (first | exact Below.refl _ _ | assumption | (with_reducible refine Below.alloc ?_ ?_ _) | (with_reducible refine below_drewN ?_ _) | (with_reducible refine Below.drew ?_) | (with_reducible refine Below.setCell ?_ ?_ _) | go_size)) hb (by go_size)
      have hB3 : Below w.heap.size w w3 := hBr.trans (hK.mono hzr)
      replace HQ := Lib.hid (HQ.out _ HO.out)
      replace HO := Lib.hid (HO.out.after hK)
      clear hb hK e1 e2 e3 hbl
      rw [HOf.out.1, HOf.out.2]
      obtain ⟨a2, c2, hv2, hs2⟩ := HO.out.slc
      subst hv2
      have SD := Lib.hid hs2
      clear hs2
      obtain ⟨lb, x0, x1, x2, -, -, -⟩ := Bx.out.three
      go_wp2_with fail
      refine (contains_strs a2 c2 (dnL l k) xo _ SD.out).mono ?_
      rintro e w4 ⟨rfl, hb⟩
      clear lb x0 x1 x2 SD
      have hz3 := hB3.size
      have hB4 := hB3.trans (hb.mono hz3)
      replace HO := Lib.hid (HO.out.after hb)
      replace Bx := Lib.hid (Bx.out.after hb)
      have hw4 : wr.heap.size < w4.heap.size := Bx.out.lt
      have hz4 := hB4.size
      clear hb hB3 hz3
      by_cases hin : xo ∈ dnL l k
      · rw [decide_eq_true hin]
        have HY := Lib.hid (HYN.out.1 hin)
        clear HYN hin
        go_wp2_with fail
        exact ⟨⟨k + 1, hlt, rfl, by rw [HY.out], Lib.hid (by rw [HY.out]; exact HO.out), hB4⟩, by simp [intOf]; omega⟩
      · rw [decide_eq_false hin]
        have HY := Lib.hid (HYN.out.2 hin)
        have HC : Hid (cntD l (dnL l (k + 1)) = cntD l (dnL l k) + (flL l xo).length) := Lib.hid (by rw [HY.out, cntD_snoc])
        have hle3 : cntD l (dnL l k) + (flL l xo).length ≤ l.length := by rw [← HC.out]; exact cntD_le H0.out (k + 1)
        clear HYN hin
        obtain ⟨lb, x0, x1, x2, -, -, -⟩ := Bx.out.three
        go_wp2_with (at_builtin; refine wpA_str rfl _ _ rfl w.heap.size _ (dnL l k) rfl ?c0 _ xo rfl #[.string xo] (0, 0) ?c1 rfl ?c2 ?c3 ?_)
        case c0 => exact HO.out.after (by repeat' (first | exact Below.refl _ _ | assumption | (with_reducible refine Below.alloc ?_ ?_ _) | (with_reducible refine below_drewN ?_ _) | (with_reducible refine Below.drew ?_) | (with_reducible refine Below.setCell ?_ ?_ _) | go_size))
        case c1 => exact Blk.newAt _ _ _ (by first | rfl | (simp; done))
        case c2 => have := HN.out; omega
        case c3 => first | omega | (simp; omega)
        intro g cap w5 hown2 hgrow hat hlt2
        have hB5 := Below.grown (B := w.heap.size) (a := w) (by repeat' (first | exact Below.refl _ _ | assumption | (with_reducible refine Below.alloc ?_ ?_ _) | (with_reducible refine below_drewN ?_ _) | (with_reducible refine Below.drew ?_) | (with_reducible refine Below.setCell ?_ ?_ _) | go_size)) hgrow (by simp; omega) (fun q hq => (HQ.out q hq).1)
        have Bx5 : Hid (Blk w5 wr.heap.size (.cells #[.string xc, .string xo, .string xf] 32)) := Lib.hid (by
          unfold Blk
          rw [hgrow.block wr.heap.size (by simp; omega) (fun h => by have := (HQ.out _ h.symm).2; omega)]
          exact Bx.out.alloc _)
        have HO5 := Lib.hid hown2
        clear hown2 hgrow hat lb x0 x1 x2 Bx HO HQ hB4 hz4 hw4
        have hz5 := hB5.size
        obtain ⟨lb, x0, x1, x2, -, -, -⟩ := Bx5.out.three
        go_wp2_with fail
        refine (fl_any (some ⟨b, off, none⟩) c l xo _ (HS.out.below (B := w.heap.size) hB5 (Nat.le_refl _)) HOk.out).mono ?_
        rintro e w6 ⟨v6, rfl, ho, hb⟩
        clear lb x0 x1 x2
        rw [show flE l = 0 from H0.out]
        have hB6 := hB5.trans (hb.mono hz5)
        have hz6 := hB6.size
        replace HO5 := Lib.hid (HO5.out.after hb)
        replace Bx5 := Lib.hid (Bx5.out.after hb)
        clear hb hB5 hz5
        obtain ⟨a6, c6, hv6, hs6⟩ := ho.slc
        subst hv6
        have S6 := Lib.hid hs6
        clear ho hs6
        generalize flL l xo = fl at HF HC hle3 S6 ⊢
        obtain ⟨lb, x0, x1, x2, -, -, -⟩ := Bx5.out.three
        go_wp2_with fail
        refine (contains_strs a6 c6 fl xc _ S6.out).mono ?_
        rintro e w7 ⟨rfl, hb⟩
        clear lb x0 x1 x2 S6 Bx5
        rw [decide_eq_true HF.out]
        have hB7 := hB6.trans (hb.mono hz6)
        replace HO5 := Lib.hid (HO5.out.after hb)
        clear hb hB6 HF
        go_wp2_with fail
        exact ⟨⟨k + 1, hlt, rfl, by rw [HC.out]; go_num, Lib.hid (by rw [HY.out]; exact HO5.out), hB7⟩, by simp [intOf]; omega⟩
    · obtain rfl : k = l.length := by omega
      rw [cntD_all H0.out]
      go_wp2_with fail
      go_returns
      exact ⟨rfl, hBr⟩
theorem shares_any (a : Option Addr) (c : Nat) (l : List OEntry) (w : World) (hs : entE.Slc w a c l) (hok : EntsOk l) :
    Calls Try.prog 4 #[.slice a l.length c] w fun e w' => e = .returned (.bool true) ∧ Below w.heap.size w w' := by
  by_cases h : ochk l = 0
  · exact shares_ok a c l w hs hok h
  · exact shares_err a c l w hs hok _ rfl h

end Go.Proofs.Ytekjoddmohjpbaa
