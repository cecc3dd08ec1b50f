/- HandoverEnds returns true at every input: the walk. -/
import Derived.Test.YtacdkldpnpjonaaHoEnds
namespace Go.Proofs.Ytacdkldpnpjonaa
open Go.RowKit
attribute [local go_sem ↓] Go.wp_at_zero Go.wp_at_succ

set_option maxRecDepth 100000 in
set_option maxHeartbeats 2000000 in
theorem ends_any (a : Option Addr) (n c : Nat) (z : Nat → Int) (w : World) (hm : n ≤ maxLen) (hR : IntsAt w a n z) :
    Calls Try.prog 5 #[.slice a n c] w fun e w' => e = .returned (.bool true) ∧ Below w.heap.size w w' := by
  unfold maxLen at hm
  have HRow := Lib.hid hR; clear hR
  go_enter Try.func5, Try.ntmps5
  go_wp2_with fail
  refine (fact_any _).mono ?_
  rintro e w1 ⟨rfl, hb1⟩
  have hz1 := hb1.size
  by_cases hn : 200 < n
  · have hd : decide (200 < n) = true := by simpa using hn
    go_wp2_with fail
    go_returns
    exact ⟨rfl, hb1⟩
  have hd : decide (200 < n) = false := by simpa using hn
  go_wp2_with fail
  refine (begun_any _).mono ?_
  rintro e w2 ⟨b, rfl, hbb, hp2, hb2⟩
  have HP2 := Lib.hid hp2; clear hp2
  have hB2 : Below w.heap.size w w2 := Below.step hb1 hb2 hz1
  clear hb1 hb2
  go_wp2_with fail
  refine (run_any b 1 0 0 0 [] [] a n c z _ HP2.out inv_begun (by omega) (HRow.out.below hB2 (Nat.le_refl _)) ?_).mono ?_
  · intro bb off he hn0
    obtain ⟨b', off', he', hlt, -⟩ := HRow.out hn0
    rw [he] at he'
    simp at he'
    omega
  rintro e wR ⟨k, s0, c0, s1, c1, m0, m1, rfl, hpR, hiR, hkR, hbR⟩
  have HPR := Lib.hid hpR; have HIR := Lib.hid hiR; clear hpR hiR
  have hBR : Below w.heap.size w wR := hB2.trans (hbR.mono (by omega))
  clear hbR
  go_wp2_with fail
  go_loopw [17] (fun i wr => ∃ (sd : Nat) (k s0 c0 s1 c1 : Int) (m0 m1 : List (Bool × Int)), sd ≤ 2 ∧ i = .int .i64 sd ∧ Hid (PairAt wr b s0 c0 s1 c1 m0 m1) ∧ Hid (Inv k s0 c0 s1 c1 m0 m1) ∧ k ≤ 200 + sd ∧ Hid (0 < sd → s0 ≠ 2) ∧ Hid (1 < sd → s1 ≠ 2) ∧ Below b wR wr) (fun i _ => 2 - (intOf i).toNat)
  case atStart => exact ⟨0, k, s0, c0, s1, c1, m0, m1, by omega, rfl, HPR, HIR, by omega, Lib.hid (fun h => absurd h (by omega)), Lib.hid (fun h => absurd h (by omega)), Below.refl _ _⟩
  case round =>
    clear HPR HIR
    obtain ⟨sd, k, s0, c0, s1, c1, m0, m1, hsd, rfl, HP, HI, hk, HF0, HF1, hB⟩ := hrel
    by_cases hlt : sd < 2
    · obtain ⟨v4, v5, x4, x5, f4, f5⟩ := HP.out.tocells
      have hbl := HP.out.cells.1
      have HPc := Lib.hid HP.out.clear
      have hBc : Below b wR ((wr.setCell ⟨b, 4, none⟩ (.slice none 0 0)).setCell ⟨b, 5, none⟩ (.slice none 0 0)) := (hB.setCell (Nat.le_refl _) _).setCell (Nat.le_refl _) _
      rcases (by omega : sd = 0 ∨ sd = 1) with rfl | rfl
      · go_wp2_with fail
        generalize (wr.setCell ⟨b, 4, none⟩ (.slice none 0 0)).setCell ⟨b, 5, none⟩ (.slice none 0 0) = W1 at HPc hBc ⊢
        have HP1 := HPc; have hB1 := hBc; clear HPc hBc x4 x5 f4 f5 HP hB
        rcases HI.out with h | h
        · have hc := core_chkX h (by omega)
          have HC0 : Hid (Inv k s0 c0 s1 c1 [] []) := Lib.hid (.inl (core_clear h))
          have HCore := Lib.hid h; clear h
          by_cases hs : s0 = 2
          · subst hs
            obtain ⟨g1, g2, g3, g4⟩ := settleX HCore.out (by omega)
            have G1 := Lib.hid g1; have G2 := Lib.hid g2; have G3 := Lib.hid g3; have G4 := Lib.hid g4; clear g1 g2 g3 g4
            refine (ask0 b 2 c0 s1 c1 (k + 1) _ _ HP1.out G1.out).mono ?_
            rintro e w3 ⟨rfl, hp3, hb3⟩
            have HP3 := Lib.hid hp3; have hB3 := hB1.trans hb3; clear hp3 hb3
            go_wp2_with fail
            refine (tell1 b s1 c1 2 c0 (k + 1) false ⟨1, k + 1, true, k + 1, true, 0⟩ _ HP3.out G2.out rfl).mono ?_
            rintro e w4 ⟨rfl, hp4, hb4⟩
            have HP4 := Lib.hid hp4; have hB4 := hB3.trans hb4; clear hp4 hb4
            go_wp2_with fail
            refine (tell0 b 2 c0 1 (k + 1) (k + 1) true ⟨0, k + 1, false, 0, false, 0⟩ _ HP4.out G3.out rfl).mono ?_
            rintro e w5 ⟨rfl, hp5, hb5⟩
            have HP5 := Lib.hid hp5; have hB5 := hB4.trans hb5; clear hp5 hb5
            go_wp2_with fail
            go_roundw
            case rel => exact ⟨1, k + 1, 0, (k + 1), 1, (k + 1), [], [], by omega, by go_num, HP5, Lib.hid (.inr (by simpa using G4.out)), by omega, Lib.hid (fun _ => by decide), Lib.hid (fun h => absurd h (by omega)), hB5⟩
            case measure => simp [intOf]
          · refine (askNot0 b s0 c0 s1 c1 _ _ HP1.out hc hs).mono ?_
            rintro e w3 ⟨rfl, hp3, hb3⟩
            have HP3 := Lib.hid hp3; have hB3 := hB1.trans hb3; clear hp3 hb3
            go_wp2_with fail
            refine (stepE21_any b s0 c0 s1 c1 [] [] _ _ HP3.out rfl).mono ?_
            rintro e w4 ⟨rfl, hp4, hb4⟩
            have HP4 := Lib.hid hp4; have hB4 := hB3.trans hb4; clear hp4 hb4
            go_wp2_with fail
            refine (stepE20_any b s0 c0 s1 c1 [] [] _ _ HP4.out rfl).mono ?_
            rintro e w5 ⟨rfl, hp5, hb5⟩
            have HP5 := Lib.hid hp5; have hB5 := hB4.trans hb5; clear hp5 hb5
            go_wp2_with fail
            go_roundw
            case rel => exact ⟨1, k, s0, c0, s1, c1, [], [], by omega, by go_num, HP5, HC0, by omega, Lib.hid (fun _ => hs), Lib.hid (fun h => absurd h (by omega)), hB5⟩
            case measure => simp [intOf]
        · have hc := core_chkY h (by omega)
          have HC0 : Hid (Inv k s0 c0 s1 c1 [] []) := Lib.hid (.inr (core_clear h))
          have HCore := Lib.hid h; clear h
          by_cases hs : s0 = 2
          · subst hs
            obtain ⟨g1, g2, g3, g4⟩ := settleY HCore.out (by omega)
            have G1 := Lib.hid g1; have G2 := Lib.hid g2; have G3 := Lib.hid g3; have G4 := Lib.hid g4; clear g1 g2 g3 g4
            refine (ask0 b 2 c0 s1 c1 k _ _ HP1.out G1.out).mono ?_
            rintro e w3 ⟨rfl, hp3, hb3⟩
            have HP3 := Lib.hid hp3; have hB3 := hB1.trans hb3; clear hp3 hb3
            go_wp2_with fail
            refine (tell1 b s1 c1 2 c0 k false ⟨s1, c1, true, k, true, 0⟩ _ HP3.out G2.out rfl).mono ?_
            rintro e w4 ⟨rfl, hp4, hb4⟩
            have HP4 := Lib.hid hp4; have hB4 := hB3.trans hb4; clear hp4 hb4
            go_wp2_with fail
            refine (tell0 b 2 c0 s1 c1 k true ⟨0, k, false, 0, false, 0⟩ _ HP4.out G3.out rfl).mono ?_
            rintro e w5 ⟨rfl, hp5, hb5⟩
            have HP5 := Lib.hid hp5; have hB5 := hB4.trans hb5; clear hp5 hb5
            go_wp2_with fail
            go_roundw
            case rel => exact ⟨1, k, 0, k, s1, c1, [], [], by omega, by go_num, HP5, Lib.hid (.inr (by simpa using G4.out)), by omega, Lib.hid (fun _ => by decide), Lib.hid (fun h => absurd h (by omega)), hB5⟩
            case measure => simp [intOf]
          · refine (askNot0 b s0 c0 s1 c1 _ _ HP1.out hc hs).mono ?_
            rintro e w3 ⟨rfl, hp3, hb3⟩
            have HP3 := Lib.hid hp3; have hB3 := hB1.trans hb3; clear hp3 hb3
            go_wp2_with fail
            refine (stepE21_any b s0 c0 s1 c1 [] [] _ _ HP3.out rfl).mono ?_
            rintro e w4 ⟨rfl, hp4, hb4⟩
            have HP4 := Lib.hid hp4; have hB4 := hB3.trans hb4; clear hp4 hb4
            go_wp2_with fail
            refine (stepE20_any b s0 c0 s1 c1 [] [] _ _ HP4.out rfl).mono ?_
            rintro e w5 ⟨rfl, hp5, hb5⟩
            have HP5 := Lib.hid hp5; have hB5 := hB4.trans hb5; clear hp5 hb5
            go_wp2_with fail
            go_roundw
            case rel => exact ⟨1, k, s0, c0, s1, c1, [], [], by omega, by go_num, HP5, HC0, by omega, Lib.hid (fun _ => hs), Lib.hid (fun h => absurd h (by omega)), hB5⟩
            case measure => simp [intOf]
      · go_wp2_with fail
        generalize (wr.setCell ⟨b, 4, none⟩ (.slice none 0 0)).setCell ⟨b, 5, none⟩ (.slice none 0 0) = W1 at HPc hBc ⊢
        have HP1 := HPc; have hB1 := hBc; clear HPc hBc x4 x5 f4 f5 HP hB
        rcases HI.out with h | h
        · have hc := core_chkY h (by omega)
          have HC0 : Hid (Inv k s0 c0 s1 c1 [] []) := Lib.hid (.inl (core_clear h))
          have HCore := Lib.hid h; clear h
          by_cases hs : s1 = 2
          · subst hs
            obtain ⟨g1, g2, g3, g4⟩ := settleY HCore.out (by omega)
            have G1 := Lib.hid g1; have G2 := Lib.hid g2; have G3 := Lib.hid g3; have G4 := Lib.hid g4; clear g1 g2 g3 g4
            refine (ask1 b 2 c1 s0 c0 k _ _ HP1.out G1.out).mono ?_
            rintro e w3 ⟨rfl, hp3, hb3⟩
            have HP3 := Lib.hid hp3; have hB3 := hB1.trans hb3; clear hp3 hb3
            go_wp2_with fail
            refine (tell0 b s0 c0 2 c1 k false ⟨s0, c0, true, k, true, 0⟩ _ HP3.out G2.out rfl).mono ?_
            rintro e w4 ⟨rfl, hp4, hb4⟩
            have HP4 := Lib.hid hp4; have hB4 := hB3.trans hb4; clear hp4 hb4
            go_wp2_with fail
            refine (tell1 b 2 c1 s0 c0 k true ⟨0, k, false, 0, false, 0⟩ _ HP4.out G3.out rfl).mono ?_
            rintro e w5 ⟨rfl, hp5, hb5⟩
            have HP5 := Lib.hid hp5; have hB5 := hB4.trans hb5; clear hp5 hb5
            go_wp2_with fail
            go_roundw
            case rel => exact ⟨2, k, s0, c0, 0, k, [], [], by omega, by go_num, HP5, Lib.hid (.inl (by simpa using G4.out)), by omega, Lib.hid (fun _ => HF0.out (by omega)), Lib.hid (fun _ => by decide), hB5⟩
            case measure => simp [intOf]
          · refine (askNot1 b s1 c1 s0 c0 _ _ HP1.out hc hs).mono ?_
            rintro e w3 ⟨rfl, hp3, hb3⟩
            have HP3 := Lib.hid hp3; have hB3 := hB1.trans hb3; clear hp3 hb3
            go_wp2_with fail
            refine (stepE20_any b s0 c0 s1 c1 [] [] _ _ HP3.out rfl).mono ?_
            rintro e w4 ⟨rfl, hp4, hb4⟩
            have HP4 := Lib.hid hp4; have hB4 := hB3.trans hb4; clear hp4 hb4
            go_wp2_with fail
            refine (stepE21_any b s0 c0 s1 c1 [] [] _ _ HP4.out rfl).mono ?_
            rintro e w5 ⟨rfl, hp5, hb5⟩
            have HP5 := Lib.hid hp5; have hB5 := hB4.trans hb5; clear hp5 hb5
            go_wp2_with fail
            go_roundw
            case rel => exact ⟨2, k, s0, c0, s1, c1, [], [], by omega, by go_num, HP5, HC0, by omega, Lib.hid (fun _ => HF0.out (by omega)), Lib.hid (fun _ => hs), hB5⟩
            case measure => simp [intOf]
        · have hc := core_chkX h (by omega)
          have HC0 : Hid (Inv k s0 c0 s1 c1 [] []) := Lib.hid (.inr (core_clear h))
          have HCore := Lib.hid h; clear h
          by_cases hs : s1 = 2
          · subst hs
            obtain ⟨g1, g2, g3, g4⟩ := settleX HCore.out (by omega)
            have G1 := Lib.hid g1; have G2 := Lib.hid g2; have G3 := Lib.hid g3; have G4 := Lib.hid g4; clear g1 g2 g3 g4
            refine (ask1 b 2 c1 s0 c0 (k + 1) _ _ HP1.out G1.out).mono ?_
            rintro e w3 ⟨rfl, hp3, hb3⟩
            have HP3 := Lib.hid hp3; have hB3 := hB1.trans hb3; clear hp3 hb3
            go_wp2_with fail
            refine (tell0 b s0 c0 2 c1 (k + 1) false ⟨1, k + 1, true, k + 1, true, 0⟩ _ HP3.out G2.out rfl).mono ?_
            rintro e w4 ⟨rfl, hp4, hb4⟩
            have HP4 := Lib.hid hp4; have hB4 := hB3.trans hb4; clear hp4 hb4
            go_wp2_with fail
            refine (tell1 b 2 c1 1 (k + 1) (k + 1) true ⟨0, k + 1, false, 0, false, 0⟩ _ HP4.out G3.out rfl).mono ?_
            rintro e w5 ⟨rfl, hp5, hb5⟩
            have HP5 := Lib.hid hp5; have hB5 := hB4.trans hb5; clear hp5 hb5
            go_wp2_with fail
            go_roundw
            case rel => exact ⟨2, k + 1, 1, (k + 1), 0, (k + 1), [], [], by omega, by go_num, HP5, Lib.hid (.inl (by simpa using G4.out)), by omega, Lib.hid (fun _ => by decide), Lib.hid (fun _ => by decide), hB5⟩
            case measure => simp [intOf]
          · refine (askNot1 b s1 c1 s0 c0 _ _ HP1.out hc hs).mono ?_
            rintro e w3 ⟨rfl, hp3, hb3⟩
            have HP3 := Lib.hid hp3; have hB3 := hB1.trans hb3; clear hp3 hb3
            go_wp2_with fail
            refine (stepE20_any b s0 c0 s1 c1 [] [] _ _ HP3.out rfl).mono ?_
            rintro e w4 ⟨rfl, hp4, hb4⟩
            have HP4 := Lib.hid hp4; have hB4 := hB3.trans hb4; clear hp4 hb4
            go_wp2_with fail
            refine (stepE21_any b s0 c0 s1 c1 [] [] _ _ HP4.out rfl).mono ?_
            rintro e w5 ⟨rfl, hp5, hb5⟩
            have HP5 := Lib.hid hp5; have hB5 := hB4.trans hb5; clear hp5 hb5
            go_wp2_with fail
            go_roundw
            case rel => exact ⟨2, k, s0, c0, s1, c1, [], [], by omega, by go_num, HP5, HC0, by omega, Lib.hid (fun _ => HF0.out (by omega)), Lib.hid (fun _ => hs), hB5⟩
            case measure => simp [intOf]
    · have hf0 := HF0.out (by omega)
      have hf1 := HF1.out (by omega)
      obtain ⟨hbl, x0, x1, x2, x3⟩ := HP.out.cells
      have hr := fun wx => resp_any s0 c0 s1 c1 wx
      rcases inv_resp HI.out (by omega) with ⟨q1, q2, q3⟩ | ⟨q1, q2, q3⟩
      · obtain ⟨j1, j2, j3, j4, j5, -⟩ := q3
        obtain rfl : s0 = 1 := by omega
        obtain ⟨rfl, rfl⟩ : s1 = 0 ∧ c1 = c0 := by omega
        have ha : acts 1 c1 = true := by unfold acts; rw [decide_eq_true ⟨(chk_zero _ _).2 (by omega), rfl⟩]
        rw [q1] at hr
        have HRR := Lib.hid hr; have HA := Lib.hid ha; clear hr q1 q2 ha j1 j2 j3 j4 j5 hf0 hf1
        go_wp2_with fail
        go_region_held3 (fun w' => w'.cell? ⟨b, 0, none⟩ = some (.int .i64 1) ∧ w'.cell? ⟨b, 1, none⟩ = some (.int .i64 c1) ∧ w'.cell? ⟨b, 2, none⟩ = some (.int .i64 0) ∧ w'.cell? ⟨b, 3, none⟩ = some (.int .i64 c1))
          (first | go_keep | (refine ⟨?_, ?_, ?_, ?_⟩ <;> (rw [hb.cell (by exact hbl)]; simp [*])))
          ((go_at_call 12; refine (HRR.out _).mono ?_; rintro e w5 ⟨rfl, hb⟩))
        have P1 := Lib.hid (HP.out.drew.after hb)
        obtain ⟨hlt1, y0, y1, y2, y3⟩ := P1.out.cells
        have hB1 : Below b wR w5 := below_mid (by go_grown) hb (by simp; omega)
        clear hb x0 x1 x2 x3
        go_wp2_with fail
        have wr1 : IntKind.i64.wrap 1 = 1 := rfl
        have wr0 : IntKind.i64.wrap 0 = 0 := rfl
        go_region_held3 (fun w' => w'.cell? ⟨b, 0, none⟩ = some (.int .i64 1) ∧ w'.cell? ⟨b, 1, none⟩ = some (.int .i64 c1) ∧ w'.cell? ⟨b, 2, none⟩ = some (.int .i64 0) ∧ w'.cell? ⟨b, 3, none⟩ = some (.int .i64 c1))
          (first | go_keep | (refine ⟨?_, ?_, ?_, ?_⟩ <;> (rw [hb2.cell (by exact hlt1)]; simp [*])))
          ((go_at_call 13; refine (acts_any _ _ _).mono ?_; rintro e w6 ⟨rfl, hb2⟩; rw [HA.out]))
        have hB2 : Below b wR w6 := below_mid (by go_grown) hb2 (by simp; omega)
        go_wp2_with fail
        go_returns
        exact ⟨rfl, hBR.trans (by first | exact hB2.mono (by omega) | exact (hB2.mono (by omega)).drew)⟩
      · obtain ⟨j1, j2, j3, j4, j5, -⟩ := q3
        obtain rfl : s1 = 1 := by omega
        obtain ⟨rfl, rfl⟩ : s0 = 0 ∧ c0 = c1 := by omega
        have ha : acts 1 c0 = true := by unfold acts; rw [decide_eq_true ⟨(chk_zero _ _).2 (by omega), rfl⟩]
        rw [q1] at hr
        have HRR := Lib.hid hr; have HA := Lib.hid ha; clear hr q1 q2 ha j1 j2 j3 j4 j5 hf0 hf1
        go_wp2_with fail
        go_region_held3 (fun w' => w'.cell? ⟨b, 0, none⟩ = some (.int .i64 0) ∧ w'.cell? ⟨b, 1, none⟩ = some (.int .i64 c0) ∧ w'.cell? ⟨b, 2, none⟩ = some (.int .i64 1) ∧ w'.cell? ⟨b, 3, none⟩ = some (.int .i64 c0))
          (first | go_keep | (refine ⟨?_, ?_, ?_, ?_⟩ <;> (rw [hb.cell (by exact hbl)]; simp [*])))
          ((go_at_call 12; refine (HRR.out _).mono ?_; rintro e w5 ⟨rfl, hb⟩))
        have P1 := Lib.hid (HP.out.drew.after hb)
        obtain ⟨hlt1, y0, y1, y2, y3⟩ := P1.out.cells
        have hB1 : Below b wR w5 := below_mid (by go_grown) hb (by simp; omega)
        clear hb x0 x1 x2 x3
        go_wp2_with fail
        have wr1 : IntKind.i64.wrap 1 = 1 := rfl
        have wr0 : IntKind.i64.wrap 0 = 0 := rfl
        go_region_held3 (fun w' => w'.cell? ⟨b, 0, none⟩ = some (.int .i64 0) ∧ w'.cell? ⟨b, 1, none⟩ = some (.int .i64 c0) ∧ w'.cell? ⟨b, 2, none⟩ = some (.int .i64 1) ∧ w'.cell? ⟨b, 3, none⟩ = some (.int .i64 c0))
          (first | go_keep | (refine ⟨?_, ?_, ?_, ?_⟩ <;> (rw [hb2.cell (by exact hlt1)]; simp [*])))
          ((go_at_call 13; refine (acts_any _ _ _).mono ?_; rintro e w6 ⟨rfl, hb2⟩; rw [HA.out]))
        have hB2 : Below b wR w6 := below_mid (by go_grown) hb2 (by simp; omega)
        go_wp2_with fail
        go_returns
        exact ⟨rfl, hBR.trans (by first | exact hB2.mono (by omega) | exact (hB2.mono (by omega)).drew)⟩

end Go.Proofs.Ytacdkldpnpjonaa
