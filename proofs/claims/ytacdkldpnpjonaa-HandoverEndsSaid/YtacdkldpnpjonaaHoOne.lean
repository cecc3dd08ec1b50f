/- sound, run and begun; HandoverOne returns true at every input. -/
import Derived.Test.YtacdkldpnpjonaaHoRun
set_option linter.unusedVariables false
set_option linter.unusedSimpArgs false
namespace Go.Proofs.Ytacdkldpnpjonaa
open Go.RowKit
attribute [local go_sem ↓] Go.wp_at_zero Go.wp_at_succ

theorem inv_resp {k s0 c0 s1 c1 : Int} {m0 m1 : List (Bool × Int)} (h : Inv k s0 c0 s1 c1 m0 m1) (hk : k ≤ 2000) :
    (resp s0 c0 s1 c1 = (0, 0) ∧ acts s1 c1 = false ∧ Core 0 k s0 c0 s1 c1 m0 m1) ∨ (resp s0 c0 s1 c1 = (1, 0) ∧ acts s0 c0 = false ∧ Core 1 k s1 c1 s0 c0 m1 m0) := by
  rcases h with h | h
  · exact .inl ⟨resp_gt (core_chkX h hk) (core_chkY h hk) (core_rank h), by unfold acts; rw [decide_eq_false (fun hh => core_not1 h hh.2)], h⟩
  · exact .inr ⟨resp_lt (core_chkY h hk) (core_chkX h hk) (core_rank h), by unfold acts; rw [decide_eq_false (fun hh => core_not1 h hh.2)], h⟩
theorem PairAt.after {w w' : World} {b : Nat} {s0 c0 s1 c1 : Int} {m0 m1 : List (Bool × Int)} (h : PairAt w b s0 c0 s1 c1 m0 m1) (hb : Below w.heap.size w w') : PairAt w' b s0 c0 s1 c1 m0 m1 := by
  obtain ⟨v0, v1, h1, h2, h3, h4⟩ := h
  exact ⟨v0, v1, h1.after hb, ownsRow_after h2 hb, ownsRow_after h3 hb, h4⟩
theorem PairAt.drew {w : World} {b : Nat} {s0 c0 s1 c1 : Int} {m0 m1 : List (Bool × Int)} (h : PairAt w b s0 c0 s1 c1 m0 m1) : PairAt w.drew b s0 c0 s1 c1 m0 m1 := by
  obtain ⟨v0, v1, h1, h2, h3, h4⟩ := h
  exact ⟨v0, v1, h1.drew, h2.drew, h3.drew, h4⟩
theorem PairAt.cells {w : World} {b : Nat} {s0 c0 s1 c1 : Int} {m0 m1 : List (Bool × Int)} (h : PairAt w b s0 c0 s1 c1 m0 m1) :
    b < w.heap.size ∧ w.cell? ⟨b, 0, none⟩ = some (.int .i64 s0) ∧ w.cell? ⟨b, 1, none⟩ = some (.int .i64 c0) ∧ w.cell? ⟨b, 2, none⟩ = some (.int .i64 s1) ∧ w.cell? ⟨b, 3, none⟩ = some (.int .i64 c1) := by
  obtain ⟨v0, v1, h1, -⟩ := h
  exact ⟨h1.lt, h1.get 0 _ rfl, h1.get 1 _ rfl, h1.get 2 _ rfl, h1.get 3 _ rfl⟩

def Sound (w : World) (b : Nat) (s0 c0 s1 c1 : Int) (m0 m1 : List (Bool × Int)) (e : Ending) (w' : World) : Prop :=
  e = .returned (.bool true) ∧ PairAt w' b s0 c0 s1 c1 m0 m1 ∧ Below b w w'

set_option maxRecDepth 100000 in
set_option maxHeartbeats 1000000 in
theorem sound_any (b : Nat) (k s0 c0 s1 c1 : Int) (m0 m1 : List (Bool × Int)) (w : World) (hP : PairAt w b s0 c0 s1 c1 m0 m1) (hI : Inv k s0 c0 s1 c1 m0 m1) (hk : k ≤ 2000) :
    Calls Try.prog 9 #[.pointer (some ⟨b, 0, none⟩)] w (Sound w b s0 c0 s1 c1 m0 m1) := by
  obtain ⟨hlt, x0, x1, x2, x3⟩ := hP.cells
  have HP := Lib.hid hP; clear hP
  have hr := fun wx => resp_any s0 c0 s1 c1 wx
  rcases inv_resp hI hk with ⟨q1, q2, -⟩ | ⟨q1, q2, -⟩
  all_goals
    rw [q1] at hr
    have HRR := Lib.hid hr; clear hr
    have Q2 := Lib.hid q2; clear q1 q2
    go_enter Try.func9, Try.ntmps9
    go_wp2_with fail
    go_region_held3 (fun w' => w'.cell? ⟨b, 0, none⟩ = some (.int .i64 s0) ∧ w'.cell? ⟨b, 1, none⟩ = some (.int .i64 c0) ∧ w'.cell? ⟨b, 2, none⟩ = some (.int .i64 s1) ∧ w'.cell? ⟨b, 3, none⟩ = some (.int .i64 c1))
      (first | go_keep | (refine ⟨?_, ?_, ?_, ?_⟩ <;> (rw [hb.cell (by exact hlt)]; simp [*])))
      ((go_at_call 12; refine (HRR.out _).mono ?_; rintro e w1 ⟨rfl, hb⟩))
    have P1 := Lib.hid (HP.out.drew.after hb)
    obtain ⟨hlt1, y0, y1, y2, y3⟩ := P1.out.cells
    have hB1 : Below b w w1 := below_mid (by go_grown) hb (by simp; omega)
    clear hb x0 x1 x2 x3
    go_wp2_with fail
    refine (acts_any _ _ _).mono ?_
    rintro e w2 ⟨rfl, hb⟩
    rw [Q2.out]
    have P2 := Lib.hid (P1.out.after hb)
    have hB2 : Below b w w2 := below_mid hB1 hb (by omega)
    clear hb
    go_wp2_with fail
    go_returns
    exact ⟨rfl, P2.out, hB2⟩

set_option maxRecDepth 100000 in
set_option maxHeartbeats 400000 in
theorem begun_any (w : World) :
    Calls Try.prog 8 #[] w fun e w' => ∃ b, e = .returned (.pointer (some ⟨b, 0, none⟩)) ∧ w.heap.size ≤ b ∧ PairAt w' b 1 0 0 0 [] [] ∧ Below w.heap.size w w' := by
  go_enter Try.func8, Try.ntmps8
  go_wp2_with fail
  refine (begin_any _).mono ?_
  rintro e w1 ⟨rfl, hb⟩
  have hz := hb.size
  go_wp2_with fail
  go_returns
  have hbn := Blk.new ((w1.alloc (.cells #[.int .i64 1, .int .i64 0] 23)).alloc (.cells #[.int .i64 0, .int .i64 0] 23)) (.cells #[.int .i64 1, .int .i64 0, .int .i64 0, .int .i64 0, .slice none 0 0, .slice none 0 0] 39)
  rw [World.size_alloc, World.size_alloc] at hbn
  refine ⟨_, rfl, ?_, ⟨_, _, hbn, World.ownsRow_nil _ _ _ _, World.ownsRow_nil _ _ _ _, .inl rfl⟩, by go_grown⟩
  omega

theorem inv_begun : Inv 0 1 0 0 0 [] [] := .inl ⟨by omega, by omega, .inl rfl, rfl, .inl ⟨rfl, rfl⟩, by simp, by simp, by simp, by simp⟩

def Ran (w : World) (b : Nat) (n : Nat) (e : Ending) (w' : World) : Prop :=
  ∃ k s0 c0 s1 c1 m0 m1, e = .returned (.bool true) ∧ PairAt w' b s0 c0 s1 c1 m0 m1 ∧ Inv k s0 c0 s1 c1 m0 m1 ∧ k ≤ n ∧ Below b w w'

set_option maxRecDepth 100000 in
set_option maxHeartbeats 1000000 in
theorem run_any (b : Nat) (s0 c0 s1 c1 : Int) (m0 m1 : List (Bool × Int)) (a : Option Addr) (n c : Nat) (z : Nat → Int) (w : World) (hP : PairAt w b s0 c0 s1 c1 m0 m1) (hI : Inv 0 s0 c0 s1 c1 m0 m1) (hn : n ≤ 200) (hR : IntsAt w a n z) (hab : ∀ bb off, a = some ⟨bb, off, none⟩ → 0 < n → bb < b) :
    Calls Try.prog 10 #[.pointer (some ⟨b, 0, none⟩), .slice a n c] w (Ran w b n) := by
  have HP := Lib.hid hP; have HI := Lib.hid hI; have HRow := Lib.hid hR; have HAB := Lib.hid hab
  clear hP hI hR hab
  go_enter Try.func10, Try.ntmps10
  go_wp2_with fail
  go_loopw [9] (fun i wr => ∃ (j : Nat) (k s0 c0 s1 c1 : Int) (m0 m1 : List (Bool × Int)), j ≤ n ∧ i = .int .i64 j ∧ Hid (PairAt wr b s0 c0 s1 c1 m0 m1) ∧ Hid (Inv k s0 c0 s1 c1 m0 m1) ∧ k ≤ j ∧ Below b w wr) (fun i _ => n - (intOf i).toNat)
  case atStart => exact ⟨0, 0, s0, c0, s1, c1, m0, m1, by omega, rfl, HP, HI, by omega, Below.refl _ _⟩
  case round =>
    clear HP HI
    obtain ⟨j, k, s0, c0, s1, c1, m0, m1, hj, rfl, HP, HI, hk, hB⟩ := hrel
    by_cases hlt : j < n
    · obtain ⟨bb, off, rfl, hbl, hcell⟩ := HRow.out (by omega)
      have hbb := HAB.out bb off rfl (by omega)
      have e1 : wr.cell? ⟨bb, off + j, none⟩ = some (.int .i64 (z j)) := (hB.cell (by exact hbb)).trans (int_cell hcell j hlt)
      have HC := Lib.hid hcell; clear hcell
      obtain ⟨p1, p2⟩ := pickv_in (z j) (n := 5) (by omega)
      obtain ⟨p3, p4⟩ := pickv_in (z j) (n := 10) (by omega)
      obtain ⟨p5, p6⟩ := pickv_in (z j) (n := 1000) (by omega)
      go_wp2_with fail
      refine (pick_any _ _ _ (by omega) (by omega)).mono ?_
      rintro e w1 ⟨rfl, rfl⟩
      go_wp2_with fail
      refine (pick_any _ _ _ (by omega) (by omega)).mono ?_
      rintro e w1 ⟨rfl, rfl⟩
      go_wp2_with fail
      refine (pick_any _ _ _ (by omega) (by omega)).mono ?_
      rintro e w1 ⟨rfl, rfl⟩
      go_wp2_with fail
      refine (step_inv b k s0 c0 s1 c1 m0 m1 _ _ _ _ HP.out HI.out (by omega) (by omega) (by omega) (by omega) (by omega)).mono ?_
      rintro e w1 ⟨k1, t0, d0, t1, d1, n0, n1, rfl, hp1, hi1, hk1, hb1⟩
      have HP1 := Lib.hid hp1; have HI1 := Lib.hid hi1; clear hp1 hi1
      have hB1 : Below b w w1 := hB.trans hb1
      clear hb1
      go_wp2_with fail
      refine (sound_any b k1 t0 d0 t1 d1 n0 n1 _ HP1.out HI1.out (by omega)).mono ?_
      rintro e w2 ⟨rfl, hp2, hb2⟩
      have HP2 := Lib.hid hp2; clear hp2
      have hB2 : Below b w w2 := hB1.trans hb2
      clear hb2
      go_wp2_with fail
      go_roundw
      case rel => exact ⟨j + 1, k1, t0, d0, t1, d1, n0, n1, by omega, by go_num, HP2, HI1, by omega, hB2⟩
      case measure => simp [intOf]; omega
    · go_wp2_with fail
      go_returns
      exact ⟨k, s0, c0, s1, c1, m0, m1, rfl, HP.out, HI.out, by omega, hB⟩

set_option maxRecDepth 100000 in
set_option maxHeartbeats 1000000 in
theorem one_any (a : Option Addr) (n c : Nat) (z : Nat → Int) (w : World) (hm : n ≤ maxLen) (hR : IntsAt w a n z) :
    Calls Try.prog 4 #[.slice a n c] w fun e w' => e = .returned (.bool true) ∧ Below w.heap.size w w' := by
  unfold maxLen at hm
  have HRow := Lib.hid hR; clear hR
  go_enter Try.func4, Try.ntmps4
  go_wp2_with fail
  refine (fact_any _).mono ?_
  rintro e w1 ⟨rfl, hb1⟩
  have hz1 := hb1.size
  by_cases hn : 200 < n
  · have hd : decide (200 < n) = true := by simpa using hn
    go_wp2_with fail
    go_returns
    exact ⟨rfl, hb1⟩
  have hd : decide (200 < n) = false := by simpa using hn
  go_wp2_with fail
  refine (begun_any _).mono ?_
  rintro e w2 ⟨b, rfl, hbb, hp2, hb2⟩
  have HP2 := Lib.hid hp2; clear hp2
  have hB2 : Below w.heap.size w w2 := Below.step hb1 hb2 hz1
  clear hb1 hb2
  go_wp2_with fail
  refine (sound_any b 0 1 0 0 0 [] [] _ HP2.out inv_begun (by omega)).mono ?_
  rintro e w3 ⟨rfl, hp3, hb3⟩
  have HP3 := Lib.hid hp3; clear hp3
  have hB3 : Below w.heap.size w w3 := hB2.trans (hb3.mono (by omega))
  clear hb3
  go_wp2_with fail
  refine (run_any b 1 0 0 0 [] [] a n c z _ HP3.out inv_begun (by omega) (HRow.out.below hB3 (Nat.le_refl _)) ?_).mono ?_
  · intro bb off he hn0
    obtain ⟨b', off', he', hlt, -⟩ := HRow.out hn0
    rw [he] at he'
    simp at he'
    omega
  rintro e w4 ⟨k, s0, c0, s1, c1, m0, m1, rfl, -, -, -, hb4⟩
  have hB4 : Below w.heap.size w w4 := hB3.trans (hb4.mono (by omega))
  clear hb4
  go_wp2_with fail
  go_returns
  exact ⟨rfl, hB4⟩

end Go.Proofs.Ytacdkldpnpjonaa
