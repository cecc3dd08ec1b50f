/- What flow.Less and slices.Equal return, for every input. -/
import Derived.Test.YtfhcciepaangiaaFlow4
set_option linter.unusedVariables false
set_option linter.unusedSimpArgs false
namespace Go.Proofs.Ytfhcciepaangiaa
open Go.RowKit
attribute [local go_sem ↓] Go.wp_at_zero Go.wp_at_succ

set_option maxRecDepth 100000 in
set_option maxHeartbeats 1000000 in
theorem equal_ints (a1 : Option Addr) (n1 c1 : Nat) (z1 : Nat → Int) (a2 : Option Addr) (n2 c2 : Nat) (z2 : Nat → Int) (w : World) (hm : n1 ≤ maxLen) (hm2 : n2 ≤ maxLen) (h1 : IntsAt w a1 n1 z1) (h2 : IntsAt w a2 n2 z2) :
    Calls Try.prog 17 #[.slice a1 n1 c1, .slice a2 n2 c2] w fun e w' => e = .returned (.bool (decide (listOf n1 z1 = listOf n2 z2))) ∧ Below w.heap.size w w' := by
  unfold maxLen at hm hm2
  generalize hr : decide (listOf n1 z1 = listOf n2 z2) = r
  have HR := Lib.hid hr; clear hr
  have H1 := Lib.hid h1; have H2 := Lib.hid h2; clear h1 h2
  by_cases hne : n1 = n2
  · subst hne
    have hd : ((n1 : Int) != (n1 : Int)) = false := by simp
    go_enter Try.func17, Try.ntmps17
    go_wp2_with fail
    go_loopw [13] (fun i wr => ∃ k : Nat, k ≤ n1 ∧ i = .int .i64 k ∧ Hid (∀ j, j < k → z1 j = z2 j) ∧ Below w.heap.size w wr) (fun i _ => n1 - (intOf i).toNat)
    case atStart => exact ⟨0, by omega, rfl, Lib.hid (fun j hj => absurd hj (by omega)), by go_grown⟩
    case round =>
      obtain ⟨k, hk, rfl, HS, hB⟩ := hrel
      have hz := hB.size
      by_cases hlt : k < n1
      · obtain ⟨b, off, rfl, hbl, hcell⟩ := (H1.out.below hB (Nat.le_refl _)) (by omega)
        have e1 := int_cell hcell k hlt
        have HC := Lib.hid hcell; clear hcell
        obtain ⟨b', off', rfl, hbl', hcell'⟩ := (H2.out.below hB (Nat.le_refl _)) (by omega)
        have e2 := int_cell hcell' k hlt
        have HC' := Lib.hid hcell'; clear hcell'
        by_cases hv : z1 k = z2 k
        · have hvd : (z1 k != z2 k) = false := by simpa using hv
          have HS2 : Hid (∀ j, j < k + 1 → z1 j = z2 j) := Lib.hid (fun j hj => by
            rcases Nat.lt_or_ge j k with h | h
            · exact HS.out j h
            · obtain rfl : j = k := by omega
              exact hv)
          clear hv
          go_wp2_with fail
          go_quiet (fail)
          go_wp2_with fail
          go_roundw
          case rel => exact ⟨k + 1, by omega, by go_num, HS2, below_drewN hB _⟩
          case measure => simp [intOf]; omega
        · have hvd : (z1 k != z2 k) = true := by simpa using hv
          have HV : Hid (listOf n1 z1 ≠ listOf n1 z2) := Lib.hid (fun h => hv (by rw [← listOf_nth (z := z1) hlt, h, listOf_nth hlt]))
          clear hv
          go_wp2_with fail
          go_quiet (fail)
          go_wp2_with fail
          go_returns
          exact ⟨ret_bool (by rw [← HR.out, decide_eq_false HV.out]), below_drewN hB _⟩
      · have HV : Hid (listOf n1 z1 = listOf n1 z2) := Lib.hid (by
          unfold listOf; apply List.map_congr_left; intro j hj; rw [List.mem_range] at hj; exact HS.out j (by omega))
        go_wp2_with fail
        go_returns
        exact ⟨ret_bool (by rw [← HR.out, decide_eq_true HV.out]), hB⟩
  · have hd : ((n1 : Int) != (n2 : Int)) = true := by simp; omega
    have hd2 : ((n1 : Nat) != n2) = true := by simpa using hne
    have HV : Hid (listOf n1 z1 ≠ listOf n2 z2) := Lib.hid (fun h => hne (by rw [← listOf_len n1 z1, h, listOf_len]))
    go_enter Try.func17, Try.ntmps17
    go_wp2_with fail
    go_returns
    exact ⟨ret_bool (by rw [← HR.out, decide_eq_false HV.out]), by go_grown⟩

theorem owned_some {w : World} {base : Nat} {E : TypeId} {size : Nat} {v : Value} {n : Nat} {xs : List Value} (h : w.ownsRow base E size v n xs) (hn : 0 < n) : ∃ g cap, v = .slice (some ⟨g, 0, none⟩) n cap ∧ n ≤ cap ∧ cap ≤ maxLen ∧ base ≤ g ∧ g < w.heap.size := by
  obtain ⟨hl, h | ⟨g, cap, cur, h1, h2, h3, h4, h5, -⟩⟩ := h
  · omega
  · exact ⟨g, cap, h1, h4, h5, h2, lt_of_block h3⟩

/- Less -/
def capsL (n : Nat) (F T M : Nat → Int) : List Value := (List.range (n * 3)).map (capV F T M)
theorem capsL_len (n : Nat) (F T M : Nat → Int) : (capsL n F T M).length = n * 3 := by simp [capsL]
theorem capsL_get {n : Nat} {F T M : Nat → Int} {k : Nat} (h : k < n * 3) : (capsL n F T M)[k]? = some (capV F T M k) := by
  unfold capsL; rw [List.getElem?_map, List.getElem?_range h]; rfl
theorem capsL_at {w : World} {base : Nat} {v : Value} {n : Nat} {F T M : Nat → Int} (h : w.ownsRow base 64 3 v n (capsL n F T M)) : ∃ a c, v = .slice a n c ∧ n ≤ c ∧ c ≤ maxLen ∧ (a = none → n = 0) ∧ CapsAt w a n F T M :=
  ownsRow_at h _ (fun k hk => capsL_get hk)
def lessE (n : Nat) (F T M : Nat → Int) (x : Int) : Int := if atE n F T M x ≠ 0 then atE n F T M x else if M (capIx n F T x).toNat = 0 then 18 else 0
def lessM (n : Nat) (F T M : Nat → Int) (x : Int) (k : Nat) : Int := if (k : Int) = capIx n F T x then M k - 1 else M k
theorem less_set {n : Nat} {F T M : Nat → Int} {x : Int} {i : Nat} (hi : i < n) (hx : capIx n F T x = i) : (capsL n F T M).set (i * 3 + 2) (.int .i64 (M i - 1)) = capsL n F T (lessM n F T M x) := by
  apply List.ext_getElem?
  intro k
  rw [List.getElem?_set]
  rcases Nat.lt_or_ge k (n * 3) with hk | hk
  · rw [capsL_get hk, capsL_get hk, capsL_len]
    by_cases hik : i * 3 + 2 = k
    · subst hik
      rw [if_pos rfl, if_pos hk, capV2, lessM, if_pos (by rw [hx])]
    · rw [if_neg hik]
      unfold capV lessM
      by_cases h0 : k % 3 = 0
      · rw [if_pos h0, if_pos h0]
      · by_cases h1 : k % 3 = 1
        · rw [if_neg h0, if_pos h1, if_neg h0, if_pos h1]
        · rw [if_neg h0, if_neg h1, if_neg h0, if_neg h1, if_neg (by rw [hx]; omega)]
  · rw [List.getElem?_eq_none (by rw [capsL_len]; exact hk), List.getElem?_eq_none (by rw [capsL_len]; exact hk), capsL_len]
    rw [if_neg (by omega)]
def LessRes (w : World) (n : Nat) (F T M : Nat → Int) (x : Int) (e : Ending) (w' : World) : Prop :=
  ∃ v, e = .returned (.tuple #[v, .int .i64 (lessE n F T M x)]) ∧ (lessE n F T M x ≠ 0 → v = .slice none 0 0) ∧ (lessE n F T M x = 0 → w'.ownsRow w.heap.size 64 3 v n (capsL n F T (lessM n F T M x))) ∧ Below w.heap.size w w'

theorem capV_one (F T M : Nat → Int) (k : Nat) : (capV F T M k).oneCell' = true := rfl
set_option maxRecDepth 100000 in
set_option maxHeartbeats 1000000 in
theorem fless_any (a : Option Addr) (n c : Nat) (F T M : Nat → Int) (x : Int) (w : World) (hm : n ≤ maxLen) (hnil : a = none → n = 0) (hR : CapsAt w a n F T M) :
    Calls Try.prog 11 #[.slice a n c, .int .i64 x] w (LessRes w n F T M x) := by
  have HRow := Lib.hid hR; clear hR
  have HNil := Lib.hid hnil; clear hnil
  have HM := Lib.hid hm
  go_enter Try.func11, Try.ntmps11
  go_wp2_with fail
  refine (fat_any a n c F T M x _ hm HRow.out).mono ?_
  rintro e w1 ⟨rfl, hb⟩
  have hB := hb; clear hb
  have hz := hB.size
  generalize hk : atE n F T M x = k
  unfold maxLen at hm
  by_cases h0 : k = 0
  · subst h0
    have hI : atI n F T M x = capIx n F T x := by unfold atI; rw [if_pos hk]
    have hg : fchk n F T M = 0 ∧ 0 ≤ capIx n F T x := by
      have h := hk
      unfold atE at h
      by_cases hc : fchk n F T M = 0
      · rw [if_neg (by omega)] at h
        refine ⟨hc, ?_⟩
        by_cases hn : capIx n F T x < 0
        · rw [if_pos hn] at h; omega
        · omega
      · rw [if_pos hc] at h; exact absurd h hc
    have hn := (fchk_good hg.1).1
    have HG := Lib.hid (fchk_good hg.1).2
    rcases capIx_cases n F T x with hx | ⟨i, hin, hx, -, -⟩
    · omega
    rw [hI, hx]
    have HK := Lib.hid hk; have HX := Lib.hid hx; clear hk hx hI hg
    obtain ⟨b, off, rfl, hbl, hcell⟩ := (HRow.out.below hB (Nat.le_refl _)) (by omega)
    obtain ⟨e1, e2, e3⟩ := caps_cells hcell i hin
    have HC := Lib.hid hcell; clear hcell
    have hi0 : ((0 : Int) ≤ (i : Int)) := by omega
    by_cases h0 : M i = 0
    · have hd : (M i == 0) = true := by simpa using h0
      have HE : Hid (lessE n F T M x = 18) := Lib.hid (by unfold lessE; rw [HK.out, if_neg (by decide), HX.out, if_pos (by simpa using h0)])
      clear h0
      go_wp2_with fail
      go_returns
      refine ⟨_, by rw [HE.out]; rfl, fun _ => rfl, fun h => by rw [HE.out] at h; omega, hB⟩
    · have hd : (M i == 0) = false := by simpa using h0
      have HE : Hid (lessE n F T M x = 0) := Lib.hid (by unfold lessE; rw [HK.out, if_neg (by decide), HX.out, if_neg (by simpa using h0)])
      have H0 := Lib.hid h0; clear h0
      go_wp2_with fail
      refine (clone_cap _ n c (capV F T M) _ HM.out (by omega) HNil.out (HRow.out.below hB (Nat.le_refl _)) (fun k _ => capV_one F T M k)).mono ?_
      rintro e w2 ⟨v, rfl, hown, hb, -⟩
      have hB2 := hB.trans (hb.mono hz)
      clear hb e1 e2 e3
      obtain ⟨g, cap, hv, hcap1, hcap2, hgb, hgl⟩ := owned_some hown (by omega)
      subst hv
      unfold maxLen at hcap2
      have y1 : w2.cell? ⟨g, i * 3 + 2, none⟩ = some (.int .i64 (M i)) := by
        rw [hown.cellAt (i * 3 + 2) (by omega)]
        have := capsL_get (F := F) (T := T) (M := M) (n := n) (k := i * 3 + 2) (by omega)
        rw [capV2] at this
        exact this
      have y2 := hown.frozenAt (i * 3 + 2)
      have HO4 : Hid ((w2.setCell ⟨g, i * 3 + 2, none⟩ (.int .i64 (M i - 1))).ownsRow w.heap.size 64 3 (.slice (some ⟨g, 0, none⟩) n cap) n (capsL n F T (lessM n F T M x))) := Lib.hid (by
        have := (hown.stored (i * 3 + 2) (.int .i64 (M i - 1))).1
        have h2 := less_set (M := M) hin HX.out
        unfold capsL at h2 ⊢
        rw [h2] at this
        exact ownsRow_base this hz)
      clear hown
      obtain ⟨g1, g2, g3, g4, g5⟩ := HG.out i hin
      go_wp2_with fail
      go_returns
      refine ⟨_, by rw [HE.out]; rfl, fun h => absurd HE.out h, fun _ => HO4.out, hB2.setCell (by simp; omega) _⟩
  · have hk' : (k != 0) = true := by simpa using h0
    have HE : Hid (lessE n F T M x = k) := Lib.hid (by unfold lessE; rw [hk, if_pos h0])
    have H0 := Lib.hid h0; clear h0 hk
    go_wp2_with fail
    go_returns
    refine ⟨_, by rw [HE.out]; rfl, fun _ => rfl, fun h => absurd (HE.out ▸ h) H0.out, hB⟩

/- the two capacities of the facts -/
def CapsMade (w : World) (e : Ending) (w' : World) : Prop :=
  ∃ g, e = .returned (.slice (some ⟨g, 0, none⟩) 2 2) ∧ CapsAt w' (some ⟨g, 0, none⟩) 2 (nth [0, 10]) (nth [10, 20]) (nth [1, 1]) ∧ Below w.heap.size w w'
set_option maxHeartbeats 400000 in
theorem caps_any (w : World) : Calls Try.prog 31 #[] w (CapsMade w) := by
  go_enter Try.func31, Try.ntmps31
  go_wp2_with fail
  go_returns
  refine ⟨_, rfl, fun _ => ⟨_, _, rfl, by simp, fun k hk => ?_⟩, by go_grown⟩
  have hb := Blk.new w (.cells #[.int .i64 0, .int .i64 10, .int .i64 1, .int .i64 10, .int .i64 20, .int .i64 1] 64)
  rw [hb.cell]
  rcases (by omega : k = 0 ∨ k = 1 ∨ k = 2 ∨ k = 3 ∨ k = 4 ∨ k = 5) with rfl | rfl | rfl | rfl | rfl | rfl
  all_goals rfl
/- integers written out in a block -/
theorem ints_block {w : World} {g : Nat} {l : List Int} {cs : Array Value} {t : TypeId} (h : Blk w g (.cells cs t)) (hl : cs.toList = ints l) : IntsAt w (some ⟨g, 0, none⟩) l.length (nth l) := by
  intro _
  refine ⟨g, 0, rfl, h.lt, fun k hk => ?_⟩
  rw [h.cell, Nat.zero_add, ← Array.getElem?_toList, hl, ints_get (by omega)]

end Go.Proofs.Ytfhcciepaangiaa
