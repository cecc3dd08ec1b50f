/- What wake.Valid returns, for every input. -/
import Derived.Test.YtfmodgffhbljoaaWake2
namespace Go.Proofs.Ytfmodgffhbljoaa
open Go.RowKit

def tmBad (t : Int) : Prop := t < 0 ∨ 200000 < t
instance (v : Int) : Decidable (tmBad v) := inferInstanceAs (Decidable (_ ∨ _))
def vsc (zl zt : Nat → Int) : Nat → Int
  | 0 => 0
  | m + 1 => if vsc zl zt m ≠ 0 then vsc zl zt m else if clsOk (zl m) then (if tmBad (zt m) then 12 else 0) else 1
theorem vsc_next {zl zt : Nat → Int} {m : Nat} (h : vsc zl zt m = 0) (h1 : clsOk (zl m)) (h2 : ¬ tmBad (zt m)) : vsc zl zt (m + 1) = 0 := by
  unfold vsc; rw [if_neg (by omega), if_pos h1, if_neg h2]
theorem vsc_cls {zl zt : Nat → Int} {m : Nat} (h : vsc zl zt m = 0) (h1 : ¬ clsOk (zl m)) : vsc zl zt (m + 1) = 1 := by
  unfold vsc; rw [if_neg (by omega), if_neg h1]
theorem vsc_time {zl zt : Nat → Int} {m : Nat} (h : vsc zl zt m = 0) (h1 : clsOk (zl m)) (h2 : tmBad (zt m)) : vsc zl zt (m + 1) = 12 := by
  unfold vsc; rw [if_neg (by omega), if_pos h1, if_pos h2]
theorem vsc_stays {zl zt : Nat → Int} {m : Nat} (h : vsc zl zt m ≠ 0) : ∀ n, m ≤ n → vsc zl zt n = vsc zl zt m := by
  intro n hn
  induction n with
  | zero => obtain rfl : m = 0 := by omega
            rfl
  | succ n ih =>
    rcases Nat.lt_or_ge n m with h' | h'
    · obtain rfl : m = n + 1 := by omega
      rfl
    · have := ih h'
      rw [vsc, this, if_pos h]
theorem vsc_zero {zl zt : Nat → Int} {n : Nat} (h : vsc zl zt n = 0) : ∀ m, m < n → clsOk (zl m) ∧ ¬ tmBad (zt m) := by
  intro m hm
  have h1 : vsc zl zt (m + 1) = 0 := by
    by_cases h' : vsc zl zt (m + 1) = 0
    · exact h'
    · exact absurd ((vsc_stays h' n (by omega)).symm.trans h) h'
  unfold vsc at h1
  split at h1
  · omega
  · split at h1
    · split at h1
      · omega
      · exact ⟨by assumption, by assumption⟩
    · omega
def far (x zl zt : Nat → Int) (n : Nat) : Prop := ∀ m, m + 1 < n → gapv x (zl m) (zl (m + 1)) ≤ zt (m + 1) - zt m
noncomputable def vldE (x : Nat → Int) (nl : Nat) (zl : Nat → Int) (nt : Nat) (zt : Nat → Int) : Int :=
  if wchk x ≠ 0 then wchk x else if 256 < nl ∨ 256 < nt then 2 else if nl ≠ nt then 3 else vsc zl zt nl
open Classical in
noncomputable def vldB (x : Nat → Int) (nl : Nat) (zl : Nat → Int) (nt : Nat) (zt : Nat → Int) : Bool := decide (vldE x nl zl nt zt = 0 ∧ far x zl zt nl)
noncomputable def vldV (x : Nat → Int) (nl : Nat) (zl : Nat → Int) (nt : Nat) (zt : Nat → Int) : Value := .tuple #[.bool (vldB x nl zl nt zt), .int .i64 (vldE x nl zl nt zt)]
open Classical in
theorem vldV_err {x : Nat → Int} {nl : Nat} {zl : Nat → Int} {nt : Nat} {zt : Nat → Int} {k : Int} (h : vldE x nl zl nt zt = k) (hk : k ≠ 0) : vldV x nl zl nt zt = .tuple #[.bool false, .int .i64 k] := by
  unfold vldV vldB; rw [h, decide_eq_false (fun hh => hk hh.1)]
open Classical in
theorem vldV_far {x : Nat → Int} {nl : Nat} {zl : Nat → Int} {nt : Nat} {zt : Nat → Int} (h : vldE x nl zl nt zt = 0) (hf : far x zl zt nl) : vldV x nl zl nt zt = .tuple #[.bool true, .int .i64 0] := by
  unfold vldV vldB; rw [h, decide_eq_true ⟨rfl, hf⟩]
open Classical in
theorem vldV_near {x : Nat → Int} {nl : Nat} {zl : Nat → Int} {nt : Nat} {zt : Nat → Int} (h : vldE x nl zl nt zt = 0) (m : Nat) (hm : m + 1 < nl) (hf : zt (m + 1) - zt m < gapv x (zl m) (zl (m + 1))) : vldV x nl zl nt zt = .tuple #[.bool false, .int .i64 0] := by
  unfold vldV vldB; rw [h, decide_eq_false (fun hh => absurd (hh.2 m hm) (by omega))]
theorem vldE_scan {x : Nat → Int} {n : Nat} {zl zt : Nat → Int} (h : wchk x = 0) (hn : n ≤ 256) : vldE x n zl n zt = vsc zl zt n := by
  unfold vldE; rw [if_neg (by omega), if_neg (by omega), if_neg (by omega)]

set_option maxRecDepth 100000 in
set_option maxHeartbeats 2000000 in
theorem valid_any (x : Nat → Int) (al : Option Addr) (nl cl : Nat) (zl : Nat → Int) (at_ : Option Addr) (nt ct : Nat) (zt : Nat → Int) (w : World) (hl : nl ≤ maxLen) (ht : nt ≤ maxLen) (hRl : IntsAt w al nl zl) (hRt : IntsAt w at_ nt zt) :
    Calls Try.prog 16 #[.agg #[.int .i64 (x 0), .int .i64 (x 1), .int .i64 (x 2), .int .i64 (x 3), .int .i64 (x 4), .int .i64 (x 5), .int .i64 (x 6), .int .i64 (x 7), .int .i64 (x 8), .int .i64 (x 9), .int .i64 (x 10), .int .i64 (x 11), .int .i64 (x 12), .int .i64 (x 13), .int .i64 (x 14), .int .i64 (x 15)], .slice al nl cl, .slice at_ nt ct] w fun e w' => e = .returned (vldV x nl zl nt zt) ∧ Below w.heap.size w w' := by
  unfold maxLen at hl ht
  generalize hr : vldV x nl zl nt zt = r
  have HR := Lib.hid hr; clear hr
  have HRl := Lib.hid hRl; clear hRl
  have HRt := Lib.hid hRt; clear hRt
  go_enter Try.func16, Try.ntmps16
  go_wp2_with fail
  refine (wcheck _ _).mono ?_
  rintro e w1 ⟨rfl, hb⟩
  have HT := Blk.after (Blk.new w _) hb
  have HT2 := Lib.hid HT; clear HT
  have hB : Below w.heap.size w w1 := Below.step (by go_grown) hb (by go_size)
  clear hb
  generalize hk : wchk x = k
  by_cases h0 : k = 0
  · subst h0
    have HK := Lib.hid hk; clear hk
    by_cases hbig : 256 < nl ∨ 256 < nt
    · have he : vldE x nl zl nt zt = 2 := by unfold vldE; rw [if_neg (by have := HK.out; omega), if_pos hbig]
      have HE := Lib.hid he; clear he
      by_cases hb1 : 256 < nl
      · have hd : decide (256 < nl) = true := by simpa using hb1
        go_wp2_with fail
        go_returns
        exact ⟨ret_eq (by rw [← HR.out, vldV_err HE.out (by decide)]; rfl), hB⟩
      · have hd : decide (256 < nl) = false := by simpa using hb1
        have hd2 : decide (256 < nt) = true := by simp; omega
        go_wp2_with fail
        go_returns
        exact ⟨ret_eq (by rw [← HR.out, vldV_err HE.out (by decide)]; rfl), hB⟩
    · have hd : decide (256 < nl) = false := by simp; omega
      have hd2 : decide (256 < nt) = false := by simp; omega
      by_cases hne : nl = nt
      · subst hne
        have hve := vldE_scan (zl := zl) (zt := zt) HK.out (by omega : nl ≤ 256)
        have HVE := Lib.hid hve; clear hve
        go_wp2_with fail
        go_loop [35] (fun i => ∃ m : Nat, m ≤ nl ∧ i = .int .i64 m ∧ Hid (vsc zl zt m = 0)) (fun i => nl - (intOf i).toNat)
        case atStart => exact ⟨0, by omega, rfl, Lib.hid rfl⟩
        case round =>
          obtain ⟨m, hm, rfl, HA⟩ := hrel
          by_cases hlt : m < nl
          · obtain ⟨b, off, rfl, hbl, hcell⟩ := (HRl.out.below hB (Nat.le_refl _)) (by omega)
            have e1 := int_cell hcell m hlt
            have HC := Lib.hid hcell; clear hcell
            obtain ⟨b', off', rfl, hbl', hcell'⟩ := (HRt.out.below hB (Nat.le_refl _)) (by omega)
            have e2 := int_cell hcell' m hlt
            have HC' := Lib.hid hcell'; clear hcell'
            by_cases hcl : clsOk (zl m)
            · have h1 : cls1 (zl m) = 0 := if_pos hcl
              by_cases htb : tmBad (zt m)
              · have hv := vsc_time HA.out hcl htb
                have hve : vldE x nl zl nl zt = 12 := HVE.out.trans ((vsc_stays (by rw [hv]; decide) nl (by omega)).trans hv)
                have HE := Lib.hid hve; clear hve hv
                unfold tmBad at htb
                have HCL := Lib.hid hcl; clear hcl
                by_cases ht0 : zt m < 0
                · clear htb
                  go_wp2_with fail
                  refine (class_any _ _).mono ?_
                  rintro e w2 ⟨rfl, rfl⟩
                  rw [h1]
                  go_wp2_with fail
                  go_returns
                  exact ⟨ret_eq (by rw [← HR.out, vldV_err HE.out (by decide)]; rfl), hB⟩
                · have ht1 : 200000 < zt m := by omega
                  clear htb
                  go_wp2_with fail
                  refine (class_any _ _).mono ?_
                  rintro e w2 ⟨rfl, rfl⟩
                  rw [h1]
                  go_wp2_with fail
                  go_returns
                  exact ⟨ret_eq (by rw [← HR.out, vldV_err HE.out (by decide)]; rfl), hB⟩
              · have HA2 := Lib.hid (vsc_next HA.out hcl htb)
                have ht0 : 0 ≤ zt m := by unfold tmBad at htb; omega
                have ht1 : zt m ≤ 200000 := by unfold tmBad at htb; omega
                have HCL := Lib.hid hcl; clear hcl
                clear htb
                go_wp2_with fail
                refine (class_any _ _).mono ?_
                rintro e w2 ⟨rfl, rfl⟩
                rw [h1]
                go_wp2_with fail
                go_round
                case rel => exact ⟨m + 1, by omega, by go_num, HA2⟩
                case measure => simp [intOf]; omega
            · have h1 : cls1 (zl m) = 1 := if_neg hcl
              have hv := vsc_cls (zt := zt) HA.out hcl
              have hve : vldE x nl zl nl zt = 1 := HVE.out.trans ((vsc_stays (by rw [hv]; decide) nl (by omega)).trans hv)
              have HE := Lib.hid hve; clear hve hv
              have HCL := Lib.hid hcl; clear hcl
              go_wp2_with fail
              refine (class_any _ _).mono ?_
              rintro e w2 ⟨rfl, rfl⟩
              rw [h1]
              go_wp2_with fail
              go_returns
              exact ⟨ret_eq (by rw [← HR.out, vldV_err HE.out (by decide)]; rfl), hB⟩
          · have hve : vldE x nl zl nl zt = 0 := by rw [HVE.out]; rw [show nl = m by omega]; exact HA.out
            have hz := vsc_zero (HVE.out.symm.trans hve)
            have HE := Lib.hid hve; clear hve HVE HA
            have HZ := Lib.hid hz; clear hz
            go_wp2_with fail
            go_loopw [12] (fun i wr => ∃ m : Nat, 1 ≤ m ∧ (m ≤ nl ∨ m = 1) ∧ i = .int .i64 m ∧ Hid (far x zl zt m) ∧ Hid (Blk wr w.heap.size (.cells #[.int .i64 (x 0), .int .i64 (x 1), .int .i64 (x 2), .int .i64 (x 3), .int .i64 (x 4), .int .i64 (x 5), .int .i64 (x 6), .int .i64 (x 7), .int .i64 (x 8), .int .i64 (x 9), .int .i64 (x 10), .int .i64 (x 11), .int .i64 (x 12), .int .i64 (x 13), .int .i64 (x 14), .int .i64 (x 15)] 24)) ∧ Below w.heap.size w wr) (fun i _ => nl - (intOf i).toNat)
            case atStart => exact ⟨1, by omega, by omega, rfl, Lib.hid (fun q hq => absurd hq (by omega)), HT2, hB⟩
            case round =>
              clear hB HT2
              obtain ⟨q, hq1, hq, rfl, HF, HT2, hB⟩ := hrel
              by_cases hlt2 : q < nl
              · obtain ⟨b, off, rfl, hbl, hcell⟩ := (HRl.out.below hB (Nat.le_refl _)) (by omega)
                have e1 := int_cell hcell (q - 1) (by omega)
                have e2 := int_cell hcell q hlt2
                have HC2 := Lib.hid hcell; clear hcell
                obtain ⟨b', off', rfl, hbl', hcell'⟩ := (HRt.out.below hB (Nat.le_refl _)) (by omega)
                have e3 := int_cell hcell' (q - 1) (by omega)
                have e4 := int_cell hcell' q hlt2
                have HC3 := Lib.hid hcell'; clear hcell'
                obtain ⟨c1, t1⟩ := HZ.out (q - 1) (by omega)
                obtain ⟨c2, t2⟩ := HZ.out q hlt2
                have e5 := tab_gap HT2.out c1 c2
                have g := gapv_in HK.out c1 c2
                obtain ⟨b1, b2⟩ := c1
                obtain ⟨b3, b4⟩ := c2
                unfold tmBad at t1 t2
                have t3 : 0 ≤ zt (q - 1) := by omega
                have t4 : zt (q - 1) ≤ 200000 := by omega
                have t5 : 0 ≤ zt q := by omega
                have t6 : zt q ≤ 200000 := by omega
                clear t1 t2
                by_cases hfar : zt q - zt (q - 1) < gapv x (zl (q - 1)) (zl q)
                · have hv := vldV_near HE.out (q - 1) (by omega) (by rw [show q - 1 + 1 = q by omega]; exact hfar)
                  have HV := Lib.hid hv; clear hv
                  go_wp2_with fail
                  go_quiet (fail)
                  go_wp2_with fail
                  go_returns
                  exact ⟨ret_eq (by rw [← HR.out, HV.out]; rfl), below_drewN hB _⟩
                · have HF2 : Hid (far x zl zt (q + 1)) := Lib.hid (fun i hi => by
                    by_cases hiq : i + 1 = q
                    · have : i = q - 1 := by omega
                      subst this
                      rw [show q - 1 + 1 = q by omega]; omega
                    · exact HF.out i (by omega))
                  go_wp2_with fail
                  go_quiet (fail)
                  go_wp2_with fail
                  go_roundw
                  case rel => exact ⟨q + 1, by omega, by omega, by go_num, HF2, Lib.hid (Blk.drewN HT2.out _), below_drewN hB _⟩
                  case measure => simp [intOf]; omega
              · have hv := vldV_far HE.out (fun i hi => HF.out i (by omega))
                have HV := Lib.hid hv; clear hv
                go_wp2_with fail
                go_returns
                exact ⟨ret_eq (by rw [← HR.out, HV.out]; rfl), hB⟩
      · have he : vldE x nl zl nt zt = 3 := by unfold vldE; rw [if_neg (by have := HK.out; omega), if_neg hbig, if_pos hne]
        have HE := Lib.hid he; clear he
        have hd3 : ((nl : Int) != (nt : Int)) = true := by simp; omega
        have HNE := Lib.hid hne; clear hne
        go_wp2_with fail
        go_returns
        exact ⟨ret_eq (by rw [← HR.out, vldV_err HE.out (by decide)]; rfl), hB⟩
  · have hne : (k != 0) = true := by simpa using h0
    have he : vldE x nl zl nt zt = k := by unfold vldE; rw [if_pos (by rw [hk]; exact h0), hk]
    have HE := Lib.hid he; clear he
    have HK := Lib.hid hk; clear hk
    have H0 := Lib.hid h0; clear h0
    go_wp2_with fail
    go_returns
    exact ⟨ret_eq (by rw [← HR.out, vldV_err HE.out H0.out]; rfl), hB⟩

end Go.Proofs.Ytfmodgffhbljoaa
