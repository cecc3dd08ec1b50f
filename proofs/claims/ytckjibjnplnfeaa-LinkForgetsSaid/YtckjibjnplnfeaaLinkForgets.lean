/- LinkForgets returns true at every input: the walk. -/
import Derived.Test.YtckjibjnplnfeaaLinkFact
set_option linter.unusedVariables false
set_option linter.unusedSimpArgs false
namespace Go.Proofs.Ytckjibjnplnfeaa
open Go.RowKit
attribute [local go_sem ↓] Go.wp_at_zero Go.wp_at_succ

theorem heard_again {b : Int} {ws : List ByteArray} {x : Int} (h : heardE b ws x = 0) :
    heardE (heardB b ws x) (heardW b ws x) x = 0 ∧ heardB (heardB b ws x) (heardW b ws x) x = heardB b ws x ∧ heardW (heardB b ws x) (heardW b ws x) x = heardW b ws x ∧ heardB b ws x + (heardW b ws x).length = b + ws.length ∧ 1 ≤ b ∧ b + ws.length ≤ 100000 ∧ 0 ≤ heardB b ws x := by
  have hb : heardB b ws x = b + heardK b x := if_pos h
  have hw : heardW b ws x = ws.drop (heardK b x) := if_pos h
  have hc : lchk b ws = 0 := by
    unfold heardE at h
    by_cases hc : lchk b ws = 0
    · exact hc
    · rw [if_pos hc] at h; exact absurd h hc
  have hx : 1 ≤ x ∧ x ≤ b + ws.length := by
    unfold heardE at h
    rw [if_neg (by omega)] at h
    by_cases hx : x < 1 ∨ b + ws.length < x
    · rw [if_pos hx] at h; omega
    · omega
  obtain ⟨h1, h2, h3, h4⟩ := (lchk_zero b ws).1 hc
  have hk : (heardK b x = 0 ∧ x ≤ b) ∨ ((heardK b x : Int) = x - b ∧ b ≤ x) := by unfold heardK; omega
  have hkl : heardK b x ≤ ws.length := by unfold heardK; omega
  have hlen : (ws.drop (heardK b x)).length = ws.length - heardK b x := List.length_drop
  rw [hb, hw]
  have hc2 : lchk (b + heardK b x) (ws.drop (heardK b x)) = 0 := (lchk_zero _ _).2 ⟨by rw [hlen]; omega, by omega, by rw [hlen]; omega, fun t ht => h4 t (List.mem_of_mem_drop ht)⟩
  have hE2 : heardE (b + heardK b x) (ws.drop (heardK b x)) x = 0 := by
    unfold heardE; rw [hc2, if_neg (by decide), hlen, if_neg (by omega)]
  have hk2 : heardK (b + heardK b x) x = 0 := by
    generalize hq : heardK b x = q at hk
    unfold heardK; omega
  refine ⟨hE2, ?_, ?_, by rw [hlen]; omega, by omega, by omega, by omega⟩
  · unfold heardB; rw [if_pos hE2, hk2]; simp
  · unfold heardW; rw [if_pos hE2, hk2]; rfl
theorem StrsOk.heard {b : Int} {ws : List ByteArray} {x : Int} (h : StrsOk ws) : StrsOk (heardW b ws x) := by
  unfold heardW
  split
  · exact fun t ht => h t (List.mem_of_mem_drop ht)
  · exact fun t ht => by simp at ht

set_option maxRecDepth 100000 in
set_option maxHeartbeats 4000000 in
theorem forgets_any (b : Int) (a : Option Addr) (c : Nat) (ws : List ByteArray) (x : Int) (w : World) (hs : strE.Slc w a c ws) (hok : StrsOk ws) :
    Calls Try.prog 4 #[.agg #[.int .i64 b, .slice a ws.length c], .int .i64 x] w fun e w' => e = .returned (.bool true) ∧ Below w.heap.size w w' := by
  have HS := Lib.hid hs; have HOk := Lib.hid hok; clear hs hok
  have hmx := HS.out.max
  unfold maxLen at hmx
  go_enter Try.func4, Try.ntmps4
  go_wp2_with fail
  refine (lfact_any _).mono ?_
  rintro e w1 ⟨rfl, hb⟩
  have Bs := Lib.hid (Blk.after (Blk.new w (.cells #[.int .i64 b, .slice a ws.length c] 26)) hb)
  have hS : Below w.heap.size w w1 := Below.step (by repeat' (first | exact Below.refl _ _ | assumption | (with_reducible refine Below.alloc ?_ ?_ _) | (with_reducible refine below_drewN ?_ _) | (with_reducible refine Below.drew ?_) | (with_reducible refine Below.setCell ?_ ?_ _) | go_size)) hb (by go_size)
  replace HS := Lib.hid (Enc.Slc.after HS.out hS)
  have hB1 : Below w.heap.size w w1 := hS
  have hz1 := hB1.size
  clear hS hb
  obtain ⟨lb, b0, b1, -, -⟩ := Bs.out.two
  go_wp2_with fail
  refine (heard_any b a c ws x _ HS.out HOk.out).mono ?_
  rintro e w2 ⟨v1, rfl, ho, hb⟩
  clear lb b0 b1
  have hS : Below w1.heap.size w1 w2 := Below.step (by repeat' (first | exact Below.refl _ _ | assumption | (with_reducible refine Below.alloc ?_ ?_ _) | (with_reducible refine below_drewN ?_ _) | (with_reducible refine Below.drew ?_) | (with_reducible refine Below.setCell ?_ ?_ _) | go_size)) hb (by go_size)
  replace HS := Lib.hid (Enc.Slc.after HS.out hS)
  replace Bs := Lib.hid (Blk.after Bs.out hS)
  have hB2 : Below w.heap.size w w2 := hB1.trans (hS.mono hB1.size)
  have hz2 := hB2.size
  clear hS hb hB1
  obtain ⟨a1, c1, hv1, hs1⟩ := ho.slc
  subst hv1
  clear ho
  have S1 := Lib.hid (hs1)
  clear hs1
  by_cases h0 : heardE b ws x = 0
  · obtain ⟨m1, m2, m3, m4, m5, m6, m7⟩ := heard_again h0
    rw [h0]
    generalize hB1 : heardB b ws x = B1 at m1 m2 m3 m4 m7 S1 ⊢
    generalize hW1 : heardW b ws x = W1 at m1 m2 m3 m4 S1 ⊢
    have HW1 := Lib.hid hW1
    have HM1 := Lib.hid m1; have HM2 := Lib.hid m2; have HM3 := Lib.hid m3; have HM4 := Lib.hid m4
    have hm8 : B1 + W1.length ≤ 100000 := by omega
    clear h0 m1 m2 m3 m4 hB1 hW1
    go_wp2_with fail
    refine (heard_any B1 a1 c1 W1 x _ (S1.out.after (by repeat' (first | exact Below.refl _ _ | assumption | (with_reducible refine Below.alloc ?_ ?_ _) | (with_reducible refine below_drewN ?_ _) | (with_reducible refine Below.drew ?_) | (with_reducible refine Below.setCell ?_ ?_ _) | go_size))) (HW1.out ▸ HOk.out.heard)).mono ?_
    rintro e w3 ⟨v2, rfl, ho, hb⟩
    have Bt := Lib.hid (Blk.after (Blk.new w2 (.cells #[.int .i64 B1, .slice a1 W1.length c1] 26)) hb)
    have hS : Below w2.heap.size w2 w3 := Below.step (by repeat' (first | exact Below.refl _ _ | assumption | (with_reducible refine Below.alloc ?_ ?_ _) | (with_reducible refine below_drewN ?_ _) | (with_reducible refine Below.drew ?_) | (with_reducible refine Below.setCell ?_ ?_ _) | go_size)) hb (by go_size)
    replace S1 := Lib.hid (Enc.Slc.after S1.out hS)
    replace Bs := Lib.hid (Blk.after Bs.out hS)
    have hB3 : Below w.heap.size w w3 := hB2.trans (hS.mono hB2.size)
    have hz3 := hB3.size
    clear hS hb hB2
    rw [HM3.out] at ho
    rw [HM1.out, HM2.out]
    obtain ⟨a2, c2, hv2, hs2⟩ := ho.slc
    subst hv2
    clear ho
    have S2 := Lib.hid (hs2)
    clear hs2
    obtain ⟨lb, b0, b1, -, -⟩ := Bs.out.two
    obtain ⟨lt, t0, t1, -, -⟩ := Bt.out.two
    go_wp2_with fail
    refine (equal_strs a1 c1 W1 a2 c2 W1 _ (S1.out.after (by repeat' (first | exact Below.refl _ _ | assumption | (with_reducible refine Below.alloc ?_ ?_ _) | (with_reducible refine below_drewN ?_ _) | (with_reducible refine Below.drew ?_) | (with_reducible refine Below.setCell ?_ ?_ _) | go_size))) (S2.out.after (by repeat' (first | exact Below.refl _ _ | assumption | (with_reducible refine Below.alloc ?_ ?_ _) | (with_reducible refine below_drewN ?_ _) | (with_reducible refine Below.drew ?_) | (with_reducible refine Below.setCell ?_ ?_ _) | go_size)))).mono ?_
    rintro e w4 ⟨rfl, hb⟩
    have Bu := Lib.hid (Blk.after (Blk.new w3 (.cells #[.int .i64 B1, .slice a2 W1.length c2] 26)) hb)
    clear lb b0 b1 lt t0 t1
    have hS : Below w3.heap.size w3 w4 := Below.step (by repeat' (first | exact Below.refl _ _ | assumption | (with_reducible refine Below.alloc ?_ ?_ _) | (with_reducible refine below_drewN ?_ _) | (with_reducible refine Below.drew ?_) | (with_reducible refine Below.setCell ?_ ?_ _) | go_size)) hb (by go_size)
    replace S1 := Lib.hid (Enc.Slc.after S1.out hS)
    replace Bs := Lib.hid (Blk.after Bs.out hS)
    replace Bt := Lib.hid (Blk.after Bt.out hS)
    replace S2 := Lib.hid (Enc.Slc.after S2.out hS)
    have hB4 : Below w.heap.size w w4 := hB3.trans (hS.mono hB3.size)
    have hz4 := hB4.size
    clear hS hb hB3
    rw [decide_eq_true rfl]
    obtain ⟨lb, b0, b1, -, -⟩ := Bs.out.two
    obtain ⟨lt, t0, t1, -, -⟩ := Bt.out.two
    have hq : (B1 + (W1.length : Int) == b + (ws.length : Int)) = true := by rw [HM4.out]; simp
    go_wp2_with fail
    go_returns
    exact ⟨rfl, hB4⟩
  · have hk' : (heardE b ws x != 0) = true := by simpa using h0
    have hB1 : heardB b ws x = 0 := if_neg h0
    have hW1 : heardW b ws x = [] := if_neg h0
    have H0 := Lib.hid h0; clear h0
    generalize heardE b ws x = er at hk' ⊢
    rw [hB1, hW1]
    clear hB1 hW1 S1
    go_wp2_with fail
    go_returns
    exact ⟨rfl, by first | exact hB2 | exact hB2.alloc (by omega) _⟩

end Go.Proofs.Ytckjibjnplnfeaa
