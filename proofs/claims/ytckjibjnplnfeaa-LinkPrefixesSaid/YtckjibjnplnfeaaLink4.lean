/- What link.Take and Frames return, for every input. -/
import Derived.Test.YtckjibjnplnfeaaLink2
set_option linter.unusedVariables false
set_option linter.unusedSimpArgs false
namespace Go.Proofs.Ytckjibjnplnfeaa
open Go.RowKit
attribute [local go_sem ↓] Go.wp_at_zero Go.wp_at_succ

def outB (n : Int) : Bool := decide (n < 1 ∨ 99999 < n)
set_option maxHeartbeats 400000 in
theorem out_any (n : Int) (w : World) : Calls Try.prog 24 #[.int .i64 n] w fun e w' => e = .returned (.bool (outB n)) ∧ w = w' := by
  generalize hr : outB n = r
  have HR := Lib.hid hr; clear hr
  go_enter Try.func24, Try.ntmps24
  by_cases h1 : n < 1
  · go_wp2_with fail
    go_returns
    exact ⟨ret_bool (by rw [← HR.out, outB, decide_eq_true (by omega)]), rfl⟩
  by_cases h2 : 99999 < n
  · go_wp2_with fail
    go_returns
    exact ⟨ret_bool (by rw [← HR.out, outB, decide_eq_true (by omega)]), rfl⟩
  · go_wp2_with fail
    go_returns
    exact ⟨ret_bool (by rw [← HR.out, outB, decide_eq_false (by omega)]), rfl⟩
def takeR (next : Int) (f : Frame) : Int × Bool × Int :=
  if (outB next || outB f.num) = true then (0, false, 4) else if 120 < f.text.size then (0, false, 2) else if f.num = next then (next + 1, true, 0) else (next, false, 0)
set_option maxHeartbeats 1000000 in
theorem take_any (next n : Int) (t : ByteArray) (w : World) (ht : t.size ≤ maxLen) :
    Calls Try.prog 9 #[.int .i64 next, .agg #[.int .i64 n, .string t]] w fun e w' => e = .returned (.tuple #[.int .i64 (takeR next ⟨n, t⟩).1, .bool (takeR next ⟨n, t⟩).2.1, .int .i64 (takeR next ⟨n, t⟩).2.2]) ∧ Below w.heap.size w w' := by
  unfold maxLen at ht
  generalize hr : takeR next ⟨n, t⟩ = r
  have HR := Lib.hid hr; clear hr
  go_enter Try.func9, Try.ntmps9
  go_wp2_with fail
  refine (out_any _ _).mono ?_
  rintro e w1 ⟨rfl, rfl⟩
  cases h1 : outB next with
  | true =>
    have HV : Hid (r = (0, false, 4)) := Lib.hid (by rw [← HR.out, takeR, h1]; rfl)
    clear h1
    go_wp2_with fail
    go_returns
    exact ⟨ret_eq (by rw [HV.out]; rfl), by go_grown⟩
  | false =>
    have hn : 1 ≤ next ∧ next ≤ 99999 := by unfold outB at h1; have := of_decide_eq_false h1; omega
    obtain ⟨hn1, hn2⟩ := hn
    go_wp2_with fail
    refine (out_any _ _).mono ?_
    rintro e w1 ⟨rfl, rfl⟩
    cases h2 : outB n with
    | true =>
      have HV : Hid (r = (0, false, 4)) := Lib.hid (by rw [← HR.out, takeR, h1, h2]; rfl)
      clear h1 h2
      go_wp2_with fail
      go_returns
      exact ⟨ret_eq (by rw [HV.out]; rfl), by go_grown⟩
    | false =>
      have HV : Hid (r = if 120 < t.size then (0, false, 2) else if n = next then (next + 1, true, 0) else (next, false, 0)) := Lib.hid (by rw [← HR.out, takeR, h1, h2]; rfl)
      clear h1 h2
      by_cases h3 : 120 < t.size
      · have hd : decide (120 < t.size) = true := by simpa using h3
        have HV2 := Lib.hid (HV.out.trans (if_pos h3))
        go_wp2_with fail
        go_returns
        exact ⟨ret_eq (by rw [HV2.out]; rfl), by go_grown⟩
      · have hd : decide (120 < t.size) = false := by simpa using h3
        have HV2 := Lib.hid (HV.out.trans (if_neg h3))
        by_cases h4 : n = next
        · have hq : (n == next) = true := by simpa using h4
          have HV3 := Lib.hid (HV2.out.trans (if_pos h4))
          clear h4
          go_wp2_with fail
          go_returns
          exact ⟨ret_eq (by rw [HV3.out]; rfl), by go_grown⟩
        · have hq : (n == next) = false := by simpa using h4
          have HV3 := Lib.hid (HV2.out.trans (if_neg h4))
          clear h4
          go_wp2_with fail
          go_returns
          exact ⟨ret_eq (by rw [HV3.out]; rfl), by go_grown⟩
/- Frames -/
def frm (b : Int) (ws : List ByteArray) (i : Nat) : Frame := ⟨b + i, el ws i⟩
def framesTo (b : Int) (ws : List ByteArray) (k : Nat) : List Frame := (List.range k).map (frm b ws)
theorem framesTo_len (b : Int) (ws : List ByteArray) (k : Nat) : (framesTo b ws k).length = k := by simp [framesTo]
theorem framesTo_succ (b : Int) (ws : List ByteArray) (k : Nat) : framesTo b ws (k + 1) = framesTo b ws k ++ [frm b ws k] := by simp [framesTo, List.range_succ]
theorem framesTo_el {b : Int} {ws : List ByteArray} {k i : Nat} (h : i < k) : el (framesTo b ws k) i = frm b ws i := el_of (by unfold framesTo; rw [List.getElem?_map, List.getElem?_range h]; rfl)
def win (ws : List ByteArray) : Nat := min 4 ws.length
def framesL (b : Int) (ws : List ByteArray) : List Frame := if lchk b ws = 0 then framesTo b ws (win ws) else []
set_option maxRecDepth 100000 in
set_option maxHeartbeats 2000000 in
theorem frames_any (b : Int) (a : Option Addr) (c : Nat) (ws : List ByteArray) (w : World) (hs : strE.Slc w a c ws) (hok : StrsOk ws) :
    Calls Try.prog 13 #[.agg #[.int .i64 b, .slice a ws.length c]] w (MadeL frameE w 32 (framesL b ws) [.int .i64 (lchk b ws)]) := by
  have HS := Lib.hid hs; have HOk := Lib.hid hok; clear hs hok
  have hlc := HS.out.1
  have hmx := HS.out.2.1
  unfold maxLen at hmx
  go_enter Try.func13, Try.ntmps13
  go_wp2_with fail
  refine (lcheck_any b a c ws _ (HS.out.after (by repeat' (first | exact Below.refl _ _ | assumption | (with_reducible refine Below.alloc ?_ ?_ _) | (with_reducible refine below_drewN ?_ _) | (with_reducible refine Below.drew ?_) | (with_reducible refine Below.setCell ?_ ?_ _) | go_size))) HOk.out).mono ?_
  rintro e w1 ⟨rfl, hb⟩
  have hB : Below w.heap.size w w1 := Below.step (by repeat' (first | exact Below.refl _ _ | assumption | (with_reducible refine Below.alloc ?_ ?_ _) | (with_reducible refine below_drewN ?_ _) | (with_reducible refine Below.drew ?_) | (with_reducible refine Below.setCell ?_ ?_ _) | go_size)) hb (by go_size)
  have hz := hb.size
  simp only [World.size_alloc] at hz
  have BS := Lib.hid (Blk.after (Blk.new w (.cells #[.int .i64 b, .slice a ws.length c] 26)) hb)
  clear hb
  obtain ⟨ls, cs0, cs1, -, -⟩ := BS.out.two
  generalize hk : lchk b ws = k
  by_cases h0 : k = 0
  · subst h0
    obtain ⟨z1, z2, z3, -⟩ := (lchk_zero b ws).1 hk
    have HK := Lib.hid hk; clear hk
    have hw : win ws ≤ 4 ∧ win ws ≤ ws.length ∧ (win ws = 4 ∨ win ws = ws.length) := by unfold win; omega
    have hmin : (if (4 : Int) ≤ (ws.length : Int) then (4 : Int) else (ws.length : Int)) = (win ws : Int) := by unfold win; split <;> omega
    have hcut : ∀ y : Int, y = (win ws : Int) → ∀ wx, (Instr.slice 22 (.slice a ws.length c) none (some (.int .i64 y)) none).run Try.prog wx = .ok (.slice a (win ws) c) wx := fun y hy wx => run_head (size := 1) Try.underlying22 (fun _ => by kernel_rfl) a ws.length c (win ws) (by omega) y hy wx
    have hwl : 4 ≤ ws.length ∨ ws.length < 4 := by omega
    have hw4 : 4 ≤ ws.length → win ws = 4 := fun h => by unfold win; omega
    have hw5 : ws.length < 4 → win ws = ws.length := fun h => by unfold win; omega
    generalize hwn : win ws = m at hw hcut hw4 hw5
    have HWn := Lib.hid hwn; clear hwn hmin
    obtain ⟨g1, g2, -⟩ := hw
    rcases hwl with hwl | hwl
    · have hm4 := hw4 hwl
      have hc2 := hcut 4 (by omega)
      have HM4 := Lib.hid hm4
      clear hcut hw4 hw5 hm4
      go_wp2_with fail
      go_loopw [5, 21] (fun s i wr => ∃ j : Nat, j ≤ m ∧ i = .int .i64 j ∧ Hid (frameE.Own wr w1.heap.size 32 s (framesTo b ws j)) ∧ Below w1.heap.size w1 wr) (fun _ i _ => m - (intOf i).toNat)
      case atStart => exact ⟨0, by omega, rfl, Lib.hid (Enc.Own.nil _ _ _ _), by go_grown⟩
      case round =>
        obtain ⟨j, hj, rfl, HO, hBr⟩ := hrel
        have hzr := hBr.size
        by_cases hlt : j < m
        · obtain ⟨bb, off, rfl, hbl, e1⟩ := strE_cell (HS.out.row.below (hB.trans (hBr.mono (by omega))) (Nat.le_refl _)) j (by omega)
          obtain ⟨ls2, x0, x1, -, -⟩ := (Blk.after BS.out hBr).two
          have hfl := framesTo_len b ws j
          have HFL := Lib.hid hfl; clear hfl
          have hv : ∃ av cv, Hid (u5 = .slice av j cv) := by
            obtain ⟨av, cv, h1, -⟩ := HO.out.slc
            exact ⟨av, cv, Lib.hid (by rw [h1, HFL.out])⟩
          obtain ⟨av, cv, HV⟩ := hv
          have h5 := HV.out
          subst h5
          go_wp2_with (at_builtin; refine wpA_frame rfl _ _ rfl w1.heap.size _ (framesTo b ws j) rfl ?c0 _ (frm b ws j) rfl #[.int .i64 (b + j), .string (el ws j)] (0, 0) ?c1 rfl ?c2 ?c3 ?_)
          case c0 => exact HO.out.after (by repeat' (first | exact Below.refl _ _ | assumption | (with_reducible refine Below.alloc ?_ ?_ _) | (with_reducible refine below_drewN ?_ _) | (with_reducible refine Below.drew ?_) | (with_reducible refine Below.setCell ?_ ?_ _) | go_size))
          case c1 => exact Blk.newAt _ _ _ (by first | rfl | (simp; done))
          case c2 => (rw [HFL.out]; omega)
          case c3 => go_size
          intro g cap w2 hown2 hgrow hat hlt2
          have hB2 := Below.grown (B := w1.heap.size) (a := w1) (by repeat' (first | exact Below.refl _ _ | assumption | (with_reducible refine Below.alloc ?_ ?_ _) | (with_reducible refine below_drewN ?_ _) | (with_reducible refine Below.drew ?_) | (with_reducible refine Below.setCell ?_ ?_ _) | go_size)) hgrow (by go_size) (ownsRow_blockBelow HO.out)
          rw [← framesTo_succ] at hown2
          have HO2 := Lib.hid hown2
          clear hgrow hat hown2
          go_wp2_with fail
          go_roundw
          case rel => exact ⟨j + 1, by omega, by go_num, HO2, hB2⟩
          case measure => simp [intOf]; omega
        · have HE : Hid (framesL b ws = framesTo b ws j) := Lib.hid (by unfold framesL; rw [if_pos HK.out, HWn.out, show m = j by omega])
          go_wp2_with fail
          go_returns
          rw [HE.out, HK.out]
          exact ⟨_, rfl, HO.out.base (by omega), hB.trans (hBr.mono (by omega))⟩
    · have hm4 := hw5 hwl
      have hc2 := hcut (ws.length : Int) (by omega)
      have HM4 := Lib.hid hm4
      clear hcut hw4 hw5 hm4
      go_wp2_with fail
      go_loopw [5, 21] (fun s i wr => ∃ j : Nat, j ≤ m ∧ i = .int .i64 j ∧ Hid (frameE.Own wr w1.heap.size 32 s (framesTo b ws j)) ∧ Below w1.heap.size w1 wr) (fun _ i _ => m - (intOf i).toNat)
      case atStart => exact ⟨0, by omega, rfl, Lib.hid (Enc.Own.nil _ _ _ _), by go_grown⟩
      case round =>
        obtain ⟨j, hj, rfl, HO, hBr⟩ := hrel
        have hzr := hBr.size
        by_cases hlt : j < m
        · obtain ⟨bb, off, rfl, hbl, e1⟩ := strE_cell (HS.out.row.below (hB.trans (hBr.mono (by omega))) (Nat.le_refl _)) j (by omega)
          obtain ⟨ls2, x0, x1, -, -⟩ := (Blk.after BS.out hBr).two
          have hfl := framesTo_len b ws j
          have HFL := Lib.hid hfl; clear hfl
          have hv : ∃ av cv, Hid (u5 = .slice av j cv) := by
            obtain ⟨av, cv, h1, -⟩ := HO.out.slc
            exact ⟨av, cv, Lib.hid (by rw [h1, HFL.out])⟩
          obtain ⟨av, cv, HV⟩ := hv
          have h5 := HV.out
          subst h5
          go_wp2_with (at_builtin; refine wpA_frame rfl _ _ rfl w1.heap.size _ (framesTo b ws j) rfl ?c0 _ (frm b ws j) rfl #[.int .i64 (b + j), .string (el ws j)] (0, 0) ?c1 rfl ?c2 ?c3 ?_)
          case c0 => exact HO.out.after (by repeat' (first | exact Below.refl _ _ | assumption | (with_reducible refine Below.alloc ?_ ?_ _) | (with_reducible refine below_drewN ?_ _) | (with_reducible refine Below.drew ?_) | (with_reducible refine Below.setCell ?_ ?_ _) | go_size))
          case c1 => exact Blk.newAt _ _ _ (by first | rfl | (simp; done))
          case c2 => (rw [HFL.out]; omega)
          case c3 => go_size
          intro g cap w2 hown2 hgrow hat hlt2
          have hB2 := Below.grown (B := w1.heap.size) (a := w1) (by repeat' (first | exact Below.refl _ _ | assumption | (with_reducible refine Below.alloc ?_ ?_ _) | (with_reducible refine below_drewN ?_ _) | (with_reducible refine Below.drew ?_) | (with_reducible refine Below.setCell ?_ ?_ _) | go_size)) hgrow (by go_size) (ownsRow_blockBelow HO.out)
          rw [← framesTo_succ] at hown2
          have HO2 := Lib.hid hown2
          clear hgrow hat hown2
          go_wp2_with fail
          go_roundw
          case rel => exact ⟨j + 1, by omega, by go_num, HO2, hB2⟩
          case measure => simp [intOf]; omega
        · have HE : Hid (framesL b ws = framesTo b ws j) := Lib.hid (by unfold framesL; rw [if_pos HK.out, HWn.out, show m = j by omega])
          go_wp2_with fail
          go_returns
          rw [HE.out, HK.out]
          exact ⟨_, rfl, HO.out.base (by omega), hB.trans (hBr.mono (by omega))⟩
  · have hk' : (k != 0) = true := by simpa using h0
    have HE : Hid (framesL b ws = []) := Lib.hid (by unfold framesL; rw [hk, if_neg h0])
    have HK := Lib.hid hk
    clear h0 hk
    go_wp2_with fail
    go_returns
    rw [HE.out, HK.out]
    exact ⟨_, rfl, Enc.Own.nil _ _ _ _, hB⟩

end Go.Proofs.Ytckjibjnplnfeaa
