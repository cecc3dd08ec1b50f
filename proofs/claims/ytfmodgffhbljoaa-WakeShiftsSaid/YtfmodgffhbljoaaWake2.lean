/- What wake.Class, classes, Gap, Least and Valid return, for every input. -/
import Derived.Test.YtfmodgffhbljoaaWake1
namespace Go.Proofs.Ytfmodgffhbljoaa
open Go.RowKit

def clsOk (v : Int) : Prop := 0 ≤ v ∧ v ≤ 3
instance (v : Int) : Decidable (clsOk v) := inferInstanceAs (Decidable (_ ∧ _))
def cls1 (v : Int) : Int := if clsOk v then 0 else 1

set_option maxHeartbeats 400000 in
theorem class_any (v : Int) (w : World) :
    Calls Try.prog 37 #[.int .i64 v] w fun e w' => e = .returned (.int .i64 (cls1 v)) ∧ w = w' := by
  go_enter Try.func37, Try.ntmps37
  go_wp2
  all_goals
    go_ret
    refine ⟨ret_int ?_, rfl⟩
    unfold cls1
    first | (rw [if_pos (by unfold clsOk; omega)]) | (rw [if_neg (by unfold clsOk; omega)])

open Classical in
noncomputable def clss (x : Nat → Int) (n : Nat) (z : Nat → Int) : Int :=
  if wchk x ≠ 0 then wchk x else if 256 < n then 2 else if ∀ k, k < n → clsOk (z k) then 0 else 1

theorem clss_tab {x : Nat → Int} {n : Nat} {z : Nat → Int} (h : wchk x ≠ 0) : clss x n z = wchk x := by unfold clss; rw [if_pos h]
theorem clss_big {x : Nat → Int} {n : Nat} {z : Nat → Int} (h : wchk x = 0) (h2 : 256 < n) : clss x n z = 2 := by unfold clss; rw [if_neg (by omega), if_pos h2]
theorem clss_bad {x : Nat → Int} {n : Nat} {z : Nat → Int} (h : wchk x = 0) (h2 : n ≤ 256) (k : Nat) (hk : k < n) (hc : ¬ clsOk (z k)) : clss x n z = 1 := by
  unfold clss; rw [if_neg (by omega), if_neg (by omega), if_neg (fun hh => hc (hh k hk))]
theorem clss_ok {x : Nat → Int} {n : Nat} {z : Nat → Int} (h : wchk x = 0) (h2 : n ≤ 256) (hc : ∀ k, k < n → clsOk (z k)) : clss x n z = 0 := by
  unfold clss; rw [if_neg (by omega), if_neg (by omega), if_pos hc]
theorem clss_zero {x : Nat → Int} {n : Nat} {z : Nat → Int} (h : clss x n z = 0) : wchk x = 0 ∧ n ≤ 256 ∧ ∀ k, k < n → clsOk (z k) := by
  unfold clss at h
  split at h
  · omega
  · split at h
    · omega
    · split at h
      · exact ⟨by omega, by omega, by assumption⟩
      · omega

set_option maxRecDepth 100000 in
set_option maxHeartbeats 1000000 in
theorem classes_any (x : Nat → Int) (a : Option Addr) (n c : Nat) (z : Nat → Int) (w : World) (hn : n ≤ c) (hc : c ≤ maxLen) (hR : IntsAt w a n z) :
    Calls Try.prog 38 #[.agg #[.int .i64 (x 0), .int .i64 (x 1), .int .i64 (x 2), .int .i64 (x 3), .int .i64 (x 4), .int .i64 (x 5), .int .i64 (x 6), .int .i64 (x 7), .int .i64 (x 8), .int .i64 (x 9), .int .i64 (x 10), .int .i64 (x 11), .int .i64 (x 12), .int .i64 (x 13), .int .i64 (x 14), .int .i64 (x 15)], .slice a n c] w fun e w' => e = .returned (.int .i64 (clss x n z)) ∧ Below w.heap.size w w' := by
  unfold maxLen at hc
  generalize hr : clss x n z = r
  have HR := Lib.hid hr; clear hr
  have HRow := Lib.hid hR; clear hR
  go_enter Try.func38, Try.ntmps38
  go_wp2_with fail
  refine (wcheck _ _).mono ?_
  rintro e w1 ⟨rfl, hb⟩
  have hB : Below w.heap.size w w1 := Below.step (by go_grown) hb (by go_size)
  clear hb
  generalize hk : wchk x = k
  by_cases h0 : k = 0
  · subst h0
    have HK := Lib.hid hk; clear hk
    by_cases hbig : 256 < n
    · have hd : decide (256 < n) = true := by simpa using hbig
      go_wp2_with fail
      go_returns
      exact ⟨ret_int (by rw [← HR.out, clss_big HK.out hbig]), hB⟩
    · have hd : decide (256 < n) = false := by simpa using hbig
      go_wp2_with fail
      go_loop [19] (fun i => ∃ m : Nat, m ≤ n ∧ i = .int .i64 m ∧ Hid (∀ j, j < m → clsOk (z j))) (fun i => n - (intOf i).toNat)
      case atStart => exact ⟨0, by omega, rfl, Lib.hid (fun j h => absurd h (by omega))⟩
      case round =>
        obtain ⟨m, hm, rfl, HA⟩ := hrel
        by_cases hlt : m < n
        · obtain ⟨b, off, rfl, hbl, hcell⟩ := (HRow.out.below hB (Nat.le_refl _)) (by omega)
          have e1 := int_cell hcell m hlt
          have HC := Lib.hid hcell; clear hcell
          by_cases hcl : clsOk (z m)
          · have h1 : cls1 (z m) = 0 := if_pos hcl
            have HA2 : Hid (∀ j, j < m + 1 → clsOk (z j)) := Lib.hid (fun j hj => by
              by_cases hjm : j = m
              · subst hjm; exact hcl
              · exact HA.out j (by omega))
            have HCL := Lib.hid hcl; clear hcl
            go_wp2_with fail
            refine (class_any _ _).mono ?_
            rintro e w2 ⟨rfl, rfl⟩
            rw [h1]
            go_wp2_with fail
            go_round
            case rel => exact ⟨m + 1, by omega, by go_num, HA2⟩
            case measure => simp [intOf]; omega
          · have h1 : cls1 (z m) = 1 := if_neg hcl
            have HCL := Lib.hid hcl; clear hcl
            go_wp2_with fail
            refine (class_any _ _).mono ?_
            rintro e w2 ⟨rfl, rfl⟩
            rw [h1]
            go_wp2_with fail
            go_returns
            exact ⟨ret_int (by rw [← HR.out, clss_bad HK.out (by omega) m hlt HCL.out]), hB⟩
        · go_wp2_with fail
          go_returns
          exact ⟨ret_int (by rw [← HR.out, clss_ok HK.out (by omega) (fun j hj => HA.out j (by omega))]), hB⟩
  · have hne : (k != 0) = true := by simpa using h0
    have HK := Lib.hid hk; clear hk
    have H0 := Lib.hid h0; clear h0
    go_wp2_with fail
    go_returns
    exact ⟨ret_int (by rw [← HR.out, clss_tab (by rw [HK.out]; exact H0.out), HK.out]), hB⟩

def gapv (x : Nat → Int) (i j : Int) : Int := x (4 * i.toNat + j.toNat)
def lst (x z : Nat → Int) : Nat → Int
  | 0 => 0
  | 1 => 0
  | n + 2 => lst x z (n + 1) + gapv x (z n) (z (n + 1))

theorem gapv_in {x : Nat → Int} (h : wchk x = 0) {i j : Int} (hi : clsOk i) (hj : clsOk j) : 30 ≤ gapv x i j ∧ gapv x i j ≤ 600 := by
  have h' : ∀ k, k < 16 → inR (x k) := by
    unfold wchk at h
    split at h
    · assumption
    · omega
  unfold clsOk at hi hj
  exact h' _ (by omega)
theorem lst_le {x z : Nat → Int} {n : Nat} (h : clss x n z = 0) : ∀ m, m ≤ n → 0 ≤ lst x z m ∧ lst x z m ≤ 600 * m := by
  obtain ⟨hw, hn, hc⟩ := clss_zero h
  intro m
  induction m with
  | zero => intro _; simp [lst]
  | succ m ih =>
    intro hm
    cases m with
    | zero => simp [lst]
    | succ m =>
      have := ih (by omega)
      have hg := gapv_in hw (hc m (by omega)) (hc (m + 1) (by omega))
      simp only [lst]
      constructor <;> omega
theorem tab_gap {w : World} {b : Nat} {x : Nat → Int} {t : TypeId} (h : Blk w b (.cells #[.int .i64 (x 0), .int .i64 (x 1), .int .i64 (x 2), .int .i64 (x 3), .int .i64 (x 4), .int .i64 (x 5), .int .i64 (x 6), .int .i64 (x 7), .int .i64 (x 8), .int .i64 (x 9), .int .i64 (x 10), .int .i64 (x 11), .int .i64 (x 12), .int .i64 (x 13), .int .i64 (x 14), .int .i64 (x 15)] t)) {i j : Int} (hi : clsOk i) (hj : clsOk j) : w.cell? ⟨b, i.toNat * 4 + j.toNat, none⟩ = some (.int .i64 (gapv x i j)) := by
  unfold clsOk at hi hj
  exact tab_cell2 h _ _ (by omega) (by omega)

set_option maxRecDepth 100000 in
set_option maxHeartbeats 1000000 in
theorem gap_any (x : Nat → Int) (i j : Int) (w : World) :
    Calls Try.prog 13 #[.agg #[.int .i64 (x 0), .int .i64 (x 1), .int .i64 (x 2), .int .i64 (x 3), .int .i64 (x 4), .int .i64 (x 5), .int .i64 (x 6), .int .i64 (x 7), .int .i64 (x 8), .int .i64 (x 9), .int .i64 (x 10), .int .i64 (x 11), .int .i64 (x 12), .int .i64 (x 13), .int .i64 (x 14), .int .i64 (x 15)], .int .i64 i, .int .i64 j] w fun e w' => e = .returned (valErr (gapv x i j) (clss x 2 (fun k => if k = 0 then i else j))) ∧ Below w.heap.size w w' := by
  generalize hr : clss x 2 (fun k => if k = 0 then i else j) = r
  have HR := Lib.hid hr; clear hr
  go_enter Try.func13, Try.ntmps13
  go_wp2_with fail
  refine (classes_any x _ _ _ (fun k => if k = 0 then i else j) _ (by decide) (by decide) ?_).mono ?_
  · intro _
    refine ⟨w.heap.size + 1, 0, rfl, by simp, fun k hk => ?_⟩
    obtain rfl | rfl : k = 0 ∨ k = 1 := by omega
    · simp
    · simp
  rintro e w1 ⟨rfl, hb⟩
  have HT := Blk.after ((Blk.new w _).alloc _) hb
  have HT2 := Lib.hid HT; clear HT
  have hB : Below w.heap.size w w1 := Below.step (by go_grown) hb (by go_size)
  clear hb
  rw [HR.out]
  by_cases h0 : r = 0
  · subst h0
    obtain ⟨hw, -, hcl⟩ := clss_zero HR.out
    have c1 := hcl 0 (by omega)
    have c2 := hcl 1 (by omega)
    simp only [if_true, reduceIte, Nat.one_ne_zero] at c1 c2
    have e1 := tab_gap HT2.out c1 c2
    clear hcl
    have HW := Lib.hid hw; clear hw
    obtain ⟨b1, b2⟩ := c1
    obtain ⟨b3, b4⟩ := c2
    go_wp2_with fail
    go_returns
    exact ⟨by rw [valErr_zero]; rfl, hB⟩
  · have hne : (r != 0) = true := by simpa using h0
    have H0 := Lib.hid h0; clear h0
    go_wp2_with fail
    go_returns
    exact ⟨by rw [valErr_ne H0.out]; rfl, hB⟩

set_option maxRecDepth 100000 in
set_option maxHeartbeats 1000000 in
theorem least_any (x : Nat → Int) (a : Option Addr) (n c : Nat) (z : Nat → Int) (w : World) (hn : n ≤ c) (hc : c ≤ maxLen) (hR : IntsAt w a n z) :
    Calls Try.prog 12 #[.agg #[.int .i64 (x 0), .int .i64 (x 1), .int .i64 (x 2), .int .i64 (x 3), .int .i64 (x 4), .int .i64 (x 5), .int .i64 (x 6), .int .i64 (x 7), .int .i64 (x 8), .int .i64 (x 9), .int .i64 (x 10), .int .i64 (x 11), .int .i64 (x 12), .int .i64 (x 13), .int .i64 (x 14), .int .i64 (x 15)], .slice a n c] w fun e w' => e = .returned (valErr (lst x z n) (clss x n z)) ∧ Below w.heap.size w w' := by
  generalize hr : clss x n z = r
  have HR := Lib.hid hr; clear hr
  have HRow := Lib.hid hR; clear hR
  have HC := Lib.hid hc
  unfold maxLen at hc
  go_enter Try.func12, Try.ntmps12
  go_wp2_with fail
  refine (classes_any x a n c z _ hn HC.out ?_).mono ?_
  · exact HRow.out.below (B := w.heap.size) (by go_grown) (Nat.le_refl _)
  rintro e w1 ⟨rfl, hb⟩
  have HT := Blk.after (Blk.new w _) hb
  have HT2 := Lib.hid HT; clear HT
  have hB : Below w.heap.size w w1 := Below.step (by go_grown) hb (by go_size)
  clear hb
  rw [HR.out]
  by_cases h0 : r = 0
  · subst h0
    obtain ⟨hw, hn2, hcl⟩ := clss_zero HR.out
    have HW := Lib.hid hw; clear hw
    have HCl := Lib.hid hcl; clear hcl
    have hlim := Lib.hid (lst_le HR.out)
    go_wp2_with fail
    go_loopw [7, 8] (fun s i wr => ∃ m : Nat, 1 ≤ m ∧ (m ≤ n ∨ m = 1) ∧ i = .int .i64 m ∧ s = .int .i64 (lst x z (min m n)) ∧ Hid (Blk wr w.heap.size (.cells #[.int .i64 (x 0), .int .i64 (x 1), .int .i64 (x 2), .int .i64 (x 3), .int .i64 (x 4), .int .i64 (x 5), .int .i64 (x 6), .int .i64 (x 7), .int .i64 (x 8), .int .i64 (x 9), .int .i64 (x 10), .int .i64 (x 11), .int .i64 (x 12), .int .i64 (x 13), .int .i64 (x 14), .int .i64 (x 15)] 24)) ∧ Below w.heap.size w wr) (fun _ i _ => n - (intOf i).toNat)
    case atStart => 
      refine ⟨1, by omega, by omega, rfl, ?_, HT2, hB⟩
      have : lst x z (min 1 n) = 0 := by
        rcases Nat.lt_or_ge 0 n with h | h
        · rw [Nat.min_eq_left h]; rfl
        · obtain rfl : n = 0 := by omega
          rfl
      rw [this]
    case round =>
      clear hB HT2
      obtain ⟨m, hm1, hm, rfl, rfl, HT2, hB⟩ := hrel
      by_cases hlt : m < n
      · obtain ⟨b, off, rfl, hbl, hcell⟩ := (HRow.out.below hB (Nat.le_refl _)) (by omega)
        have e1 := int_cell hcell (m - 1) (by omega)
        have e2 := int_cell hcell m hlt
        have HC2 := Lib.hid hcell; clear hcell
        have c1 := HCl.out (m - 1) (by omega)
        have c2 := HCl.out m hlt
        have e3 := tab_gap HT2.out c1 c2
        have g := gapv_in HW.out c1 c2
        have hs : lst x z (m + 1) = lst x z m + gapv x (z (m - 1)) (z m) := by
          obtain ⟨q, rfl⟩ : ∃ q, m = q + 1 := ⟨m - 1, by omega⟩
          rfl
        have HS := Lib.hid hs; clear hs
        have hl := hlim.out m (by omega)
        obtain ⟨b1, b2⟩ := c1
        obtain ⟨b3, b4⟩ := c2
        rw [Nat.min_eq_left (by omega)]
        go_wp2_with fail
        go_quiet (fail)
        go_wp2_with fail
        go_roundw
        case rel => exact ⟨m + 1, by omega, by omega, by go_num, by rw [Nat.min_eq_left (by omega), HS.out], Lib.hid (Blk.drewN HT2.out _), below_drewN hB _⟩
        case measure => simp [intOf]; omega
      · have e0 : lst x z (min m n) = lst x z n := by
          rcases Nat.lt_or_ge n m with h | h
          · rw [Nat.min_eq_right (by omega)]
          · rw [Nat.min_eq_left (by omega)]; congr 1; omega
        rw [e0]
        have E0 := Lib.hid e0; clear e0
        go_wp2_with fail
        go_returns
        exact ⟨by rw [valErr_zero]; rfl, hB⟩
  · have hne : (r != 0) = true := by simpa using h0
    have H0 := Lib.hid h0; clear h0
    go_wp2_with fail
    go_returns
    exact ⟨by rw [valErr_ne H0.out]; rfl, hB⟩

end Go.Proofs.Ytfmodgffhbljoaa
