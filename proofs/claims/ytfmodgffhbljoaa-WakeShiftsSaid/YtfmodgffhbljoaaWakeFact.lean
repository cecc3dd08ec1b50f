/- The examples that wakeFact asks come out as it says. -/
import Derived.Test.YtfmodgffhbljoaaWake3
namespace Go.Proofs.Ytfmodgffhbljoaa
open Go.RowKit

set_option maxRecDepth 100000 in
set_option maxHeartbeats 1000000 in
theorem standard_any (w : World) :
    Calls Try.prog 35 #[] w fun e w' => e = .returned (.agg #[.int .i64 60, .int .i64 60, .int .i64 60, .int .i64 60, .int .i64 120, .int .i64 60, .int .i64 60, .int .i64 60, .int .i64 180, .int .i64 120, .int .i64 90, .int .i64 60, .int .i64 240, .int .i64 180, .int .i64 120, .int .i64 120]) ∧ Below w.heap.size w w' := by
  go_enter Try.func35, Try.ntmps35
  go_wp2
  go_returns
  exact ⟨rfl, by go_grown⟩

def std : Nat → Int
  | 0 => 60
  | 1 => 60
  | 2 => 60
  | 3 => 60
  | 4 => 120
  | 5 => 60
  | 6 => 60
  | 7 => 60
  | 8 => 180
  | 9 => 120
  | 10 => 90
  | 11 => 60
  | 12 => 240
  | 13 => 180
  | 14 => 120
  | 15 => 120
  | _ => 0
instance (v : Int) : Decidable (inR v) := inferInstanceAs (Decidable (_ ∧ _))
instance (x : Nat → Int) (a b c : Nat) : Decidable (tri x a b c) := inferInstanceAs (Decidable (_ ≤ _))
theorem wchk_std : wchk std = 0 := by
  have h : ∀ a, a < 4 → ∀ b, b < 4 → ∀ c, c < 4 → tri std a b c := by decide
  exact wchk_ok std (by decide) (fun a b c ha hb hc => h a ha b hb c hc)
theorem wchk_null : wchk (fun _ => 0) = 4 := wchk_bad _ 0 (by decide) (by decide)
def two_ (i j : Int) : Nat → Int := fun k => if k = 0 then i else j
theorem clss_two {i j : Int} (hi : clsOk i) (hj : clsOk j) : clss std 2 (two_ i j) = 0 :=
  clss_ok wchk_std (by decide) (fun k hk => by
    obtain rfl | rfl : k = 0 ∨ k = 1 := by omega
    · exact hi
    · exact hj)
theorem gap_std (i j : Int) (w : World) (hi : clsOk i) (hj : clsOk j) :
    Calls Try.prog 13 #[.agg #[.int .i64 60, .int .i64 60, .int .i64 60, .int .i64 60, .int .i64 120, .int .i64 60, .int .i64 60, .int .i64 60, .int .i64 180, .int .i64 120, .int .i64 90, .int .i64 60, .int .i64 240, .int .i64 180, .int .i64 120, .int .i64 120], .int .i64 i, .int .i64 j] w fun e w' => e = .returned (.tuple #[.int .i64 (gapv std i j), .int .i64 0]) ∧ Below w.heap.size w w' :=
  (gap_any std i j w).mono fun e w' h => ⟨h.1.trans (by rw [show clss std 2 (fun k => if k = 0 then i else j) = 0 from clss_two hi hj]; rfl), h.2⟩
theorem null_check (w : World) :
    Calls Try.prog 36 #[.agg #[.int .i64 0, .int .i64 0, .int .i64 0, .int .i64 0, .int .i64 0, .int .i64 0, .int .i64 0, .int .i64 0, .int .i64 0, .int .i64 0, .int .i64 0, .int .i64 0, .int .i64 0, .int .i64 0, .int .i64 0, .int .i64 0]] w fun e w' => e = .returned (.int .i64 4) ∧ Below w.heap.size w w' :=
  (wcheck (fun _ => 0) w).mono fun e w' h => ⟨h.1.trans (by rw [wchk_null]), h.2⟩
theorem std_check (w : World) :
    Calls Try.prog 36 #[.agg #[.int .i64 60, .int .i64 60, .int .i64 60, .int .i64 60, .int .i64 120, .int .i64 60, .int .i64 60, .int .i64 60, .int .i64 180, .int .i64 120, .int .i64 90, .int .i64 60, .int .i64 240, .int .i64 180, .int .i64 120, .int .i64 120]] w fun e w' => e = .returned (.int .i64 0) ∧ Below w.heap.size w w' :=
  (wcheck std w).mono fun e w' h => ⟨h.1.trans (by rw [wchk_std]), h.2⟩
def three_ : Nat → Int := fun k => if k = 0 then 2 else 0
theorem least_std (b : Nat) (w : World) (hR : IntsAt w (some ⟨b, 0, none⟩) 3 three_) :
    Calls Try.prog 12 #[.agg #[.int .i64 60, .int .i64 60, .int .i64 60, .int .i64 60, .int .i64 120, .int .i64 60, .int .i64 60, .int .i64 60, .int .i64 180, .int .i64 120, .int .i64 90, .int .i64 60, .int .i64 240, .int .i64 180, .int .i64 120, .int .i64 120], .slice (some ⟨b, 0, none⟩) 3 3] w fun e w' => e = .returned (.tuple #[.int .i64 240, .int .i64 0]) ∧ Below w.heap.size w w' :=
  (least_any std _ 3 3 three_ w (by decide) (by decide) hR).mono fun e w' h => ⟨h.1.trans (by
    rw [clss_ok wchk_std (by decide) (fun k hk => by
      obtain rfl | rfl | rfl : k = 0 ∨ k = 1 ∨ k = 2 := by omega
      all_goals decide)]
    rfl), h.2⟩
theorem vldE_std (i : Int) (h0 : 0 ≤ i) (h1 : i ≤ 200000) : vldE std 2 (two_ 2 0) 2 (two_ 5 i) = 0 := by
  rw [vldE_scan wchk_std (by decide)]
  exact vsc_next (m := 1) (vsc_next (m := 0) rfl (by decide) (by unfold tmBad two_; simp)) (by decide) (by unfold tmBad two_; simp; omega)
theorem valid_std (b b' : Nat) (i : Int) (w : World) (h0 : 0 ≤ i) (h1 : i ≤ 200000) (hR : IntsAt w (some ⟨b, 0, none⟩) 2 (two_ 2 0)) (hR' : IntsAt w (some ⟨b', 0, none⟩) 2 (two_ 5 i)) :
    Calls Try.prog 16 #[.agg #[.int .i64 60, .int .i64 60, .int .i64 60, .int .i64 60, .int .i64 120, .int .i64 60, .int .i64 60, .int .i64 60, .int .i64 180, .int .i64 120, .int .i64 90, .int .i64 60, .int .i64 240, .int .i64 180, .int .i64 120, .int .i64 120], .slice (some ⟨b, 0, none⟩) 2 2, .slice (some ⟨b', 0, none⟩) 2 2] w fun e w' => e = .returned (.tuple #[.bool (decide (185 ≤ i)), .int .i64 0]) ∧ Below w.heap.size w w' :=
  (valid_any std _ 2 2 _ _ 2 2 _ w (by decide) (by decide) hR hR').mono fun e w' h => ⟨h.1.trans (by
    by_cases hi : 185 ≤ i
    · rw [vldV_far (vldE_std i h0 h1), decide_eq_true hi]
      intro m hm
      obtain rfl : m = 0 := by omega
      show (180 : Int) ≤ i - 5
      omega
    · rw [vldV_near (vldE_std i h0 h1) 0 (by decide), decide_eq_false hi]
      show i - 5 < (180 : Int)
      omega), h.2⟩
theorem row_two (w : World) (b : Nat) (i j : Int) (h0 : w.cell? ⟨b, 0, none⟩ = some (.int .i64 i)) (h1 : w.cell? ⟨b, 1, none⟩ = some (.int .i64 j)) (hb : b < w.heap.size) : IntsAt w (some ⟨b, 0, none⟩) 2 (two_ i j) := by
  intro _
  refine ⟨b, 0, rfl, hb, fun k hk => ?_⟩
  obtain rfl | rfl : k = 0 ∨ k = 1 := by omega
  · exact h0
  · exact h1
theorem row_three (w : World) (b : Nat) (h0 : w.cell? ⟨b, 0, none⟩ = some (.int .i64 2)) (h1 : w.cell? ⟨b, 1, none⟩ = some (.int .i64 0)) (h2 : w.cell? ⟨b, 2, none⟩ = some (.int .i64 0)) (hb : b < w.heap.size) : IntsAt w (some ⟨b, 0, none⟩) 3 three_ := by
  intro _
  refine ⟨b, 0, rfl, hb, fun k hk => ?_⟩
  obtain rfl | rfl | rfl : k = 0 ∨ k = 1 ∨ k = 2 := by omega
  · exact h0
  · exact h1
  · exact h2

set_option maxRecDepth 100000 in
set_option maxHeartbeats 2000000 in
theorem wakeFact_any (w : World) :
    Calls Try.prog 11 #[] w fun e w' => e = .returned (.bool true) ∧ Below w.heap.size w w' := by
  go_enter Try.func11, Try.ntmps11
  go_wp2_with fail
  refine (standard_any _).mono ?_
  rintro e w1 ⟨rfl, hb⟩
  have HB : Below w.heap.size w w1 := Below.step (by go_grown) hb (by go_size)
  have hz := HB.size
  clear hb
  as_aux_lemma =>
    go_wp2_with fail
    refine (gap_std 2 0 _ (by decide) (by decide)).mono ?_
    rintro e w2 ⟨rfl, hb⟩
    rw [show gapv std 2 0 = 180 from rfl]
    have Bt := Blk.after (Blk.new w1 _) hb
    have lt := Bt.lt
    have ct0 := Bt.get 0 (.int .i64 60) rfl
    have ct1 := Bt.get 1 (.int .i64 60) rfl
    have ct2 := Bt.get 2 (.int .i64 60) rfl
    have ct3 := Bt.get 3 (.int .i64 60) rfl
    have ct4 := Bt.get 4 (.int .i64 120) rfl
    have ct5 := Bt.get 5 (.int .i64 60) rfl
    have ct6 := Bt.get 6 (.int .i64 60) rfl
    have ct7 := Bt.get 7 (.int .i64 60) rfl
    have ct8 := Bt.get 8 (.int .i64 180) rfl
    have ct9 := Bt.get 9 (.int .i64 120) rfl
    have ct10 := Bt.get 10 (.int .i64 90) rfl
    have ct11 := Bt.get 11 (.int .i64 60) rfl
    have ct12 := Bt.get 12 (.int .i64 240) rfl
    have ct13 := Bt.get 13 (.int .i64 180) rfl
    have ct14 := Bt.get 14 (.int .i64 120) rfl
    have ct15 := Bt.get 15 (.int .i64 120) rfl
    replace HB : Below w.heap.size w w2 := Below.step (by go_grown) hb (by go_size)
    replace hz := HB.size
    clear hb
    as_aux_lemma =>
      go_wp2_with fail
      refine (least_std _ _ (row_three _ _ (by simp) (by simp) (by simp) (by go_size))).mono ?_
      rintro e w3 ⟨rfl, hb⟩
      clear lt ct0 ct1 ct2 ct3 ct4 ct5 ct6 ct7 ct8 ct9 ct10 ct11 ct12 ct13 ct14 ct15
      replace Bt := Blk.after (Bt.alloc _) hb
      have lt := Bt.lt
      have ct0 := Bt.get 0 (.int .i64 60) rfl
      have ct1 := Bt.get 1 (.int .i64 60) rfl
      have ct2 := Bt.get 2 (.int .i64 60) rfl
      have ct3 := Bt.get 3 (.int .i64 60) rfl
      have ct4 := Bt.get 4 (.int .i64 120) rfl
      have ct5 := Bt.get 5 (.int .i64 60) rfl
      have ct6 := Bt.get 6 (.int .i64 60) rfl
      have ct7 := Bt.get 7 (.int .i64 60) rfl
      have ct8 := Bt.get 8 (.int .i64 180) rfl
      have ct9 := Bt.get 9 (.int .i64 120) rfl
      have ct10 := Bt.get 10 (.int .i64 90) rfl
      have ct11 := Bt.get 11 (.int .i64 60) rfl
      have ct12 := Bt.get 12 (.int .i64 240) rfl
      have ct13 := Bt.get 13 (.int .i64 180) rfl
      have ct14 := Bt.get 14 (.int .i64 120) rfl
      have ct15 := Bt.get 15 (.int .i64 120) rfl
      replace HB : Below w.heap.size w w3 := Below.step (by go_grown) hb (by go_size)
      replace hz := HB.size
      clear hb
      as_aux_lemma =>
        go_wp2_with fail
        refine (valid_std _ _ 185 _ (by decide) (by decide) (row_two _ _ _ _ (by simp) (by simp) (by go_size)) (row_two _ _ _ _ (by simp) (by simp) (by go_size))).mono ?_
        rintro e w4 ⟨rfl, hb⟩
        rw [show decide ((185 : Int) ≤ 185) = true from rfl]
        clear lt ct0 ct1 ct2 ct3 ct4 ct5 ct6 ct7 ct8 ct9 ct10 ct11 ct12 ct13 ct14 ct15
        replace Bt := Blk.after ((Bt.alloc _).alloc _) hb
        have lt := Bt.lt
        have ct0 := Bt.get 0 (.int .i64 60) rfl
        have ct1 := Bt.get 1 (.int .i64 60) rfl
        have ct2 := Bt.get 2 (.int .i64 60) rfl
        have ct3 := Bt.get 3 (.int .i64 60) rfl
        have ct4 := Bt.get 4 (.int .i64 120) rfl
        have ct5 := Bt.get 5 (.int .i64 60) rfl
        have ct6 := Bt.get 6 (.int .i64 60) rfl
        have ct7 := Bt.get 7 (.int .i64 60) rfl
        have ct8 := Bt.get 8 (.int .i64 180) rfl
        have ct9 := Bt.get 9 (.int .i64 120) rfl
        have ct10 := Bt.get 10 (.int .i64 90) rfl
        have ct11 := Bt.get 11 (.int .i64 60) rfl
        have ct12 := Bt.get 12 (.int .i64 240) rfl
        have ct13 := Bt.get 13 (.int .i64 180) rfl
        have ct14 := Bt.get 14 (.int .i64 120) rfl
        have ct15 := Bt.get 15 (.int .i64 120) rfl
        replace HB : Below w.heap.size w w4 := Below.step (by go_grown) hb (by go_size)
        replace hz := HB.size
        clear hb
        as_aux_lemma =>
          go_wp2_with fail
          refine (valid_std _ _ 184 _ (by decide) (by decide) (row_two _ _ _ _ (by simp) (by simp) (by go_size)) (row_two _ _ _ _ (by simp) (by simp) (by go_size))).mono ?_
          rintro e w5 ⟨rfl, hb⟩
          rw [show decide ((185 : Int) ≤ 184) = false from rfl]
          clear lt ct0 ct1 ct2 ct3 ct4 ct5 ct6 ct7 ct8 ct9 ct10 ct11 ct12 ct13 ct14 ct15
          replace Bt := Blk.after ((Bt.alloc _).alloc _) hb
          have lt := Bt.lt
          have ct0 := Bt.get 0 (.int .i64 60) rfl
          have ct1 := Bt.get 1 (.int .i64 60) rfl
          have ct2 := Bt.get 2 (.int .i64 60) rfl
          have ct3 := Bt.get 3 (.int .i64 60) rfl
          have ct4 := Bt.get 4 (.int .i64 120) rfl
          have ct5 := Bt.get 5 (.int .i64 60) rfl
          have ct6 := Bt.get 6 (.int .i64 60) rfl
          have ct7 := Bt.get 7 (.int .i64 60) rfl
          have ct8 := Bt.get 8 (.int .i64 180) rfl
          have ct9 := Bt.get 9 (.int .i64 120) rfl
          have ct10 := Bt.get 10 (.int .i64 90) rfl
          have ct11 := Bt.get 11 (.int .i64 60) rfl
          have ct12 := Bt.get 12 (.int .i64 240) rfl
          have ct13 := Bt.get 13 (.int .i64 180) rfl
          have ct14 := Bt.get 14 (.int .i64 120) rfl
          have ct15 := Bt.get 15 (.int .i64 120) rfl
          replace HB : Below w.heap.size w w5 := Below.step (by go_grown) hb (by go_size)
          replace hz := HB.size
          clear hb
          as_aux_lemma =>
            go_wp2_with fail
            refine (null_check _).mono ?_
            rintro e w6 ⟨rfl, hb⟩
            clear lt ct0 ct1 ct2 ct3 ct4 ct5 ct6 ct7 ct8 ct9 ct10 ct11 ct12 ct13 ct14 ct15
            replace Bt := Blk.after Bt hb
            have lt := Bt.lt
            have ct0 := Bt.get 0 (.int .i64 60) rfl
            have ct1 := Bt.get 1 (.int .i64 60) rfl
            have ct2 := Bt.get 2 (.int .i64 60) rfl
            have ct3 := Bt.get 3 (.int .i64 60) rfl
            have ct4 := Bt.get 4 (.int .i64 120) rfl
            have ct5 := Bt.get 5 (.int .i64 60) rfl
            have ct6 := Bt.get 6 (.int .i64 60) rfl
            have ct7 := Bt.get 7 (.int .i64 60) rfl
            have ct8 := Bt.get 8 (.int .i64 180) rfl
            have ct9 := Bt.get 9 (.int .i64 120) rfl
            have ct10 := Bt.get 10 (.int .i64 90) rfl
            have ct11 := Bt.get 11 (.int .i64 60) rfl
            have ct12 := Bt.get 12 (.int .i64 240) rfl
            have ct13 := Bt.get 13 (.int .i64 180) rfl
            have ct14 := Bt.get 14 (.int .i64 120) rfl
            have ct15 := Bt.get 15 (.int .i64 120) rfl
            replace HB : Below w.heap.size w w6 := Below.step (by go_grown) hb (by go_size)
            replace hz := HB.size
            clear hb
            go_wp2_with fail
            refine (class_any _ _).mono ?_
            rintro e w9 ⟨rfl, rfl⟩
            rw [show cls1 4 = 1 from rfl]
            go_wp2_with fail
            go_returns
            exact ⟨rfl, HB⟩

end Go.Proofs.Ytfmodgffhbljoaa
