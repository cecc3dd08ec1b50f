/- WakeShifts returns true at every input within the form's reach. -/
import Derived.Test.YtfmodgffhbljoaaWakeFact
import Derived.Test.YtfmodgffhbljoaaCloneInt
import Derived.Test.YtfmodgffhbljoaaPick
import Derived.Deep.AppendLies
namespace Go.Proofs.Ytfmodgffhbljoaa
open Go.RowKit

def shf (z : Nat → Int) (by_ : Int) (j : Nat) : Nat → Int := fun i => if i < j then z i + by_ else z i
theorem vsc_shift (zl z : Nat → Int) (by_ : Int) (h0 : 0 ≤ by_) : ∀ n, (∀ i, i < n → 0 ≤ z i ∧ z i ≤ 200000 - by_) → vsc zl (shf z by_ n) n = vsc zl z n := by
  intro n hz
  have key : ∀ m, m ≤ n → vsc zl (shf z by_ n) m = vsc zl z m := by
    intro m
    induction m with
    | zero => intro _; rfl
    | succ m ih =>
      intro hm
      have h1 := ih (by omega)
      have h2 := hz m (by omega)
      have h3 : ¬ tmBad (shf z by_ n m) := by unfold tmBad shf; rw [if_pos (by omega)]; omega
      have h4 : ¬ tmBad (z m) := by unfold tmBad; omega
      simp only [vsc, h1, h3, h4]
  exact key n (Nat.le_refl _)
theorem vldV_shift (x zl z : Nat → Int) (nl n : Nat) (by_ : Int) (h0 : 0 ≤ by_) (hz : ∀ i, i < n → 0 ≤ z i ∧ z i ≤ 200000 - by_) : vldV x nl zl n (shf z by_ n) = vldV x nl zl n z := by
  have hE : vldE x nl zl n (shf z by_ n) = vldE x nl zl n z := by
    unfold vldE
    by_cases h : nl = n
    · subst h; rw [vsc_shift zl z by_ h0 nl hz]
    · simp [h]
  have hB : vldB x nl zl n (shf z by_ n) = vldB x nl zl n z := by
    unfold vldB
    rw [hE]
    by_cases h : vldE x nl zl n z = 0
    · have hn : nl = n := by
        by_cases h' : nl = n
        · exact h'
        · unfold vldE at h
          split at h
          · omega
          · split at h
            · omega
            · first | omega | (rw [if_pos h'] at h; omega)
      subst hn
      have : far x zl (shf z by_ nl) nl ↔ far x zl z nl := by
        unfold far shf
        constructor
        · intro hh m hm
          have := hh m hm
          rw [if_pos (by omega), if_pos (by omega)] at this
          omega
        · intro hh m hm
          have := hh m hm
          rw [if_pos (by omega), if_pos (by omega)]
          omega
      rw [decide_eq_decide, this]
    · rw [decide_eq_decide]; exact ⟨fun hh => absurd hh.1 h, fun hh => absurd hh.1 h⟩
  unfold vldV
  rw [hE, hB]

theorem shf_row {w : World} {g n : Nat} {cur : Array Value} {E : TypeId} {z : Nat → Int} (hb : Blk w g (.cells cur E)) (hc : ∀ i, i < n → cur[i]? = some (.int .i64 (z i))) : IntsAt w (some ⟨g, 0, none⟩) n z := by
  intro _
  refine ⟨g, 0, rfl, hb.lt, fun k hk => ?_⟩
  rw [Nat.zero_add, hb.cell]
  exact hc k (by omega)
theorem shf_next {cur : Array Value} {z : Nat → Int} {by_ : Int} {n j : Nat} (hn : n ≤ cur.size) (hj : j < n) (h : ∀ i, i < n → cur[i]? = some (.int .i64 (shf z by_ j i))) : ∀ i, i < n → (cur.setIfInBounds j (.int .i64 (z j + by_)))[i]? = some (.int .i64 (shf z by_ (j + 1) i)) := by
  intro i hi
  rw [Array.getElem?_setIfInBounds]
  by_cases hij : j = i
  · subst hij
    rw [if_pos rfl, if_pos (by omega)]
    unfold shf; rw [if_pos (by omega)]
  · rw [if_neg hij, h i hi]
    unfold shf
    by_cases h1 : i < j
    · rw [if_pos h1, if_pos (by omega)]
    · rw [if_neg h1, if_neg (by omega)]

set_option maxRecDepth 100000 in
set_option maxHeartbeats 2000000 in
theorem shifts_any (x : Nat → Int) (al : Option Addr) (nl cl : Nat) (zl : Nat → Int) (a : Option Addr) (n c : Nat) (z : Nat → Int) (k : Int) (w : World) (hl : nl ≤ maxLen) (hm : n ≤ maxLen) (hby : n * 8 ≤ 140737488355328) (hnil : a = none → n = 0) (hRl : IntsAt w al nl zl) (hR : IntsAt w a n z) :
    Calls Try.prog 4 #[.agg #[.int .i64 (x 0), .int .i64 (x 1), .int .i64 (x 2), .int .i64 (x 3), .int .i64 (x 4), .int .i64 (x 5), .int .i64 (x 6), .int .i64 (x 7), .int .i64 (x 8), .int .i64 (x 9), .int .i64 (x 10), .int .i64 (x 11), .int .i64 (x 12), .int .i64 (x 13), .int .i64 (x 14), .int .i64 (x 15)], .slice al nl cl, .slice a n c, .int .i64 k] w fun e w' => e = .returned (.bool true) ∧ Below w.heap.size w w' := by
  have HRl := Lib.hid hRl; have HR := Lib.hid hR; have HL := Lib.hid hl; have HM := Lib.hid hm; have HN := Lib.hid hnil
  clear hRl hR hl hm hnil
  obtain ⟨p1, p2⟩ := pickv_in k (n := 1000) (by omega)
  go_enter Try.func4, Try.ntmps4
  go_wp2_with fail
  refine (wakeFact_any _).mono ?_
  rintro e w1 ⟨rfl, hb⟩
  have HT := Lib.hid (Blk.after (Blk.new w _) hb)
  have hT1 := HT.out.lt
  have hB : Below w.heap.size w w1 := Below.step (by go_grown) hb (by go_size)
  clear hb
  go_wp2_with fail
  refine (pick_any _ _ _ (by omega) (by omega)).mono ?_
  rintro e w2 ⟨rfl, rfl⟩
  generalize pickv k 1000 = by_ at p1 p2 ⊢
  go_wp2_with fail
  refine (clone_int a n c (fun j => .int .i64 (z j)) _ HM.out (by omega) HN.out (HR.out.below hB (Nat.le_refl _)) (fun _ _ => rfl)).mono ?_
  rintro e w2 ⟨v, rfl, hown, hb2, -⟩
  replace HT := Lib.hid (HT.out.after hb2)
  have hB2 : Below w.heap.size w w2 := Below.step hB hb2 hB.size
  have hz2 := hb2.size
  have hzz := hB.size
  rcases Nat.eq_zero_or_pos n with hn0 | hn0
  · subst hn0
    obtain ⟨a9, c9, rfl, -, -, -, -⟩ := ownsRow_at hown (fun _ => .int .i64 0) (fun k hk => absurd hk (by omega))
    clear hown hb2 hB
    have hsh := Lib.hid (vldV_shift x zl z nl 0 by_ (by omega) (fun i hi => absurd hi (by omega)))
    have lB := HT.out.lt
    have ct0 := tab_cell HT.out 0 (by decide)
    have ct1 := tab_cell HT.out 1 (by decide)
    have ct2 := tab_cell HT.out 2 (by decide)
    have ct3 := tab_cell HT.out 3 (by decide)
    have ct4 := tab_cell HT.out 4 (by decide)
    have ct5 := tab_cell HT.out 5 (by decide)
    have ct6 := tab_cell HT.out 6 (by decide)
    have ct7 := tab_cell HT.out 7 (by decide)
    have ct8 := tab_cell HT.out 8 (by decide)
    have ct9 := tab_cell HT.out 9 (by decide)
    have ct10 := tab_cell HT.out 10 (by decide)
    have ct11 := tab_cell HT.out 11 (by decide)
    have ct12 := tab_cell HT.out 12 (by decide)
    have ct13 := tab_cell HT.out 13 (by decide)
    have ct14 := tab_cell HT.out 14 (by decide)
    have ct15 := tab_cell HT.out 15 (by decide)
    generalize hV : vldV x nl zl 0 z = V
    have HV := Lib.hid hV; clear hV
    obtain ⟨vb, ve, hV2⟩ : ∃ vb ve, V = .tuple #[.bool vb, .int .i64 ve] := ⟨_, _, HV.out.symm⟩
    subst hV2
    go_wp2_with fail
    refine wp_loop_rounds 1 ?_
    rw [rounds_succ]
    go_wp2_with fail
    refine (valid_any x al nl cl zl a 0 c z _ HL.out HM.out (HRl.out.below hB2 (Nat.le_refl _)) (fun h => absurd h (by omega))).mono ?_
    rintro e w3 ⟨rfl, hb3⟩
    rw [HV.out]
    replace HT := Lib.hid (HT.out.after hb3)
    have hB3 : Below w.heap.size w w3 := Below.step hB2 hb3 hB2.size
    clear hb3 hB2 ct0 ct1 ct2 ct3 ct4 ct5 ct6 ct7 ct8 ct9 ct10 ct11 ct12 ct13 ct14 ct15 lB
    have lB := HT.out.lt
    have ct0 := tab_cell HT.out 0 (by decide)
    have ct1 := tab_cell HT.out 1 (by decide)
    have ct2 := tab_cell HT.out 2 (by decide)
    have ct3 := tab_cell HT.out 3 (by decide)
    have ct4 := tab_cell HT.out 4 (by decide)
    have ct5 := tab_cell HT.out 5 (by decide)
    have ct6 := tab_cell HT.out 6 (by decide)
    have ct7 := tab_cell HT.out 7 (by decide)
    have ct8 := tab_cell HT.out 8 (by decide)
    have ct9 := tab_cell HT.out 9 (by decide)
    have ct10 := tab_cell HT.out 10 (by decide)
    have ct11 := tab_cell HT.out 11 (by decide)
    have ct12 := tab_cell HT.out 12 (by decide)
    have ct13 := tab_cell HT.out 13 (by decide)
    have ct14 := tab_cell HT.out 14 (by decide)
    have ct15 := tab_cell HT.out 15 (by decide)
    go_wp2_with fail
    refine (valid_any x al nl cl zl a9 0 c9 (shf z by_ 0) _ HL.out HM.out (HRl.out.below hB3 (Nat.le_refl _)) (fun h => absurd h (by omega))).mono ?_
    rintro e w4 ⟨rfl, hb4⟩
    rw [hsh.out, HV.out]
    have hB4 : Below w.heap.size w w4 := Below.step hB3 hb4 hB3.size
    clear hb4
    go_wp2_with fail
    go_returns
    exact ⟨ret_bool (by simp), hB4⟩
  · obtain ⟨g, cap, rfl, hg1, hg2⟩ := hown.form hn0
    have hgw : w.heap.size < g := Nat.lt_of_lt_of_le hT1 hg1
    obtain ⟨cur, hblk, hcs, hcur⟩ : ∃ cur : Array Value, Blk w2 g (.cells cur 3) ∧ n ≤ cur.size ∧ ∀ i, i < n → cur[i]? = some (.int .i64 (shf z by_ 0 i)) := by
      obtain ⟨hlen, h | ⟨g', cap', cur, hv, h1, h2, h3, h4, h5, h6⟩⟩ := hown
      · omega
      · obtain ⟨rfl, rfl⟩ : g = g' ∧ cap = cap' := by simpa using hv
        refine ⟨cur, h2, by omega, fun i hi => ?_⟩
        have h7 : (cur.toList.take (n * 1))[i]? = some (.int .i64 (z i)) := by rw [h6]; simp [hi]
        rw [List.getElem?_take, if_pos (by omega)] at h7
        unfold shf; rw [if_neg (by omega)]
        simpa using h7
    have HBlk := Lib.hid hblk; have HCur := Lib.hid hcur; clear hblk hcur hown hb2 hB
    have hnm : n ≤ 9223372036854775807 := by have := HM.out; unfold maxLen at this; omega
    go_wp2_with fail
    go_loopw [23] (fun i wr => ∃ (j : Nat) (cur : Array Value), j ≤ n ∧ i = .int .i64 j ∧ n ≤ cur.size ∧ Hid (Blk wr g (.cells cur 3)) ∧ Hid (∀ i, i < n → cur[i]? = some (.int .i64 (shf z by_ j i))) ∧ Hid (∀ i, i < j → 0 ≤ z i ∧ z i ≤ 200000 - by_) ∧ Hid (Blk wr w.heap.size (.cells #[.int .i64 (x 0), .int .i64 (x 1), .int .i64 (x 2), .int .i64 (x 3), .int .i64 (x 4), .int .i64 (x 5), .int .i64 (x 6), .int .i64 (x 7), .int .i64 (x 8), .int .i64 (x 9), .int .i64 (x 10), .int .i64 (x 11), .int .i64 (x 12), .int .i64 (x 13), .int .i64 (x 14), .int .i64 (x 15)] 24)) ∧ Below w.heap.size w wr) (fun i _ => n - (intOf i).toNat)
    case atStart => exact ⟨0, cur, by omega, rfl, hcs, HBlk, HCur, Lib.hid (fun i hi => absurd hi (by omega)), HT, hB2⟩
    case round =>
      clear HT hB2 HBlk HCur
      obtain ⟨j, cur, hj, rfl, hcs, HBlk, HCur, HZ, HT, hB2⟩ := hrel
      by_cases hlt : j < n
      · have e1 := (HBlk.out.cell j).trans (HCur.out j hlt)
        have f1 := HBlk.out.free j
        have e0 : shf z by_ j j = z j := by unfold shf; rw [if_neg (by omega)]
        rw [e0] at e1
        clear e0
        by_cases h1 : z j < 0
        · go_wp2_with fail
          go_returns
          exact ⟨rfl, hB2⟩
        by_cases h2 : 200000 - by_ < z j
        · go_wp2_with fail
          go_returns
          exact ⟨rfl, hB2⟩
        have HBlk2 := Lib.hid (HBlk.out.set j (.int .i64 (z j + by_)))
        have HCur2 := Lib.hid (shf_next hcs hlt HCur.out)
        have HZ2 : Hid (∀ i, i < j + 1 → 0 ≤ z i ∧ z i ≤ 200000 - by_) := Lib.hid (fun i hi => by
          by_cases hij : i = j
          · subst hij; omega
          · exact HZ.out i (by omega))
        have hcs2 : n ≤ (cur.setIfInBounds j (.int .i64 (z j + by_))).size := by simpa using hcs
        have HT2 := Lib.hid (HT.out.other (a := ⟨g, j, none⟩) (by simp; omega) (.int .i64 (z j + by_)))
        go_wp2_with fail
        go_roundw
        case rel => exact ⟨j + 1, _, by omega, by go_num, hcs2, HBlk2, HCur2, HZ2, HT2, hB2.setCell (by simp; omega) _⟩
        case measure => simp [intOf]; omega
      · obtain rfl : j = n := by omega
        have hsh := Lib.hid (vldV_shift x zl z nl j by_ (by omega) HZ.out)
        have HRow2 := Lib.hid (shf_row HBlk.out HCur.out)
        have lB := HT.out.lt
        have ct0 := tab_cell HT.out 0 (by decide)
        have ct1 := tab_cell HT.out 1 (by decide)
        have ct2 := tab_cell HT.out 2 (by decide)
        have ct3 := tab_cell HT.out 3 (by decide)
        have ct4 := tab_cell HT.out 4 (by decide)
        have ct5 := tab_cell HT.out 5 (by decide)
        have ct6 := tab_cell HT.out 6 (by decide)
        have ct7 := tab_cell HT.out 7 (by decide)
        have ct8 := tab_cell HT.out 8 (by decide)
        have ct9 := tab_cell HT.out 9 (by decide)
        have ct10 := tab_cell HT.out 10 (by decide)
        have ct11 := tab_cell HT.out 11 (by decide)
        have ct12 := tab_cell HT.out 12 (by decide)
        have ct13 := tab_cell HT.out 13 (by decide)
        have ct14 := tab_cell HT.out 14 (by decide)
        have ct15 := tab_cell HT.out 15 (by decide)
        generalize hV : vldV x nl zl j z = V
        have HV := Lib.hid hV; clear hV
        obtain ⟨vb, ve, hV2⟩ : ∃ vb ve, V = .tuple #[.bool vb, .int .i64 ve] := ⟨_, _, HV.out.symm⟩
        subst hV2
        go_wp2_with fail
        refine (valid_any x al nl cl zl a j c z _ HL.out HM.out (HRl.out.below hB2 (Nat.le_refl _)) (HR.out.below hB2 (Nat.le_refl _))).mono ?_
        rintro e w3 ⟨rfl, hb3⟩
        rw [HV.out]
        replace HT := Lib.hid (HT.out.after hb3)
        replace HRow2 := Lib.hid (HRow2.out.after hb3)
        have hB3 : Below w.heap.size w w3 := Below.step hB2 hb3 hB2.size
        clear hb3 hB2 ct0 ct1 ct2 ct3 ct4 ct5 ct6 ct7 ct8 ct9 ct10 ct11 ct12 ct13 ct14 ct15 lB
        have lB := HT.out.lt
        have ct0 := tab_cell HT.out 0 (by decide)
        have ct1 := tab_cell HT.out 1 (by decide)
        have ct2 := tab_cell HT.out 2 (by decide)
        have ct3 := tab_cell HT.out 3 (by decide)
        have ct4 := tab_cell HT.out 4 (by decide)
        have ct5 := tab_cell HT.out 5 (by decide)
        have ct6 := tab_cell HT.out 6 (by decide)
        have ct7 := tab_cell HT.out 7 (by decide)
        have ct8 := tab_cell HT.out 8 (by decide)
        have ct9 := tab_cell HT.out 9 (by decide)
        have ct10 := tab_cell HT.out 10 (by decide)
        have ct11 := tab_cell HT.out 11 (by decide)
        have ct12 := tab_cell HT.out 12 (by decide)
        have ct13 := tab_cell HT.out 13 (by decide)
        have ct14 := tab_cell HT.out 14 (by decide)
        have ct15 := tab_cell HT.out 15 (by decide)
        go_wp2_with fail
        refine (valid_any x al nl cl zl (some ⟨g, 0, none⟩) j cap (shf z by_ j) _ HL.out HM.out (HRl.out.below hB3 (Nat.le_refl _)) HRow2.out).mono ?_
        rintro e w4 ⟨rfl, hb4⟩
        rw [hsh.out, HV.out]
        have hB4 : Below w.heap.size w w4 := Below.step hB3 hb4 hB3.size
        clear hb4
        go_wp2_with fail
        go_returns
        exact ⟨ret_bool (by simp), hB4⟩

end Go.Proofs.Ytfmodgffhbljoaa
