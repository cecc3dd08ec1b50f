/- What flow.Demand returns, for every input. -/
import Derived.Test.YtfhcciepaangiaaFlow2
import Derived.Test.YtfhcciepaangiaaCloneInt
set_option linter.unusedVariables false
set_option linter.unusedSimpArgs false
namespace Go.Proofs.Ytfhcciepaangiaa
open Go.RowKit
attribute [local go_sem ↓] Go.wp_at_zero Go.wp_at_succ

def tbad (x : Int) : Prop := x < 0 ∨ 200000 < x
instance (x : Int) : Decidable (tbad x) := inferInstanceAs (Decidable (_ ∨ _))
def tsc (z : Nat → Int) : Nat → Int
  | 0 => 0
  | m + 1 => if tsc z m ≠ 0 then tsc z m else if tbad (z m) then 12 else 0
theorem tsc_bad {z : Nat → Int} {m : Nat} (h : tsc z m = 0) (hb : tbad (z m)) : tsc z (m + 1) = 12 := by rw [tsc, if_neg (by omega), if_pos hb]
theorem tsc_next {z : Nat → Int} {m : Nat} (h : tsc z m = 0) (hb : ¬ tbad (z m)) : tsc z (m + 1) = 0 := by rw [tsc, if_neg (by omega), if_neg hb]
theorem tsc_stays {z : Nat → Int} {m : Nat} (h : tsc z m ≠ 0) : ∀ n, m ≤ n → tsc z n = tsc z m := by
  intro n hn
  induction n with
  | zero => obtain rfl : m = 0 := by omega
            rfl
  | succ n ih =>
    rcases Nat.lt_or_ge n m with h' | h'
    · obtain rfl : m = n + 1 := by omega
      rfl
    · rw [tsc, ih h', if_pos h]
/- how many of the first m times belong to capacity i -/
def cnt (n : Nat) (F T : Nat → Int) (z : Nat → Int) (i : Int) : Nat → Int
  | 0 => 0
  | m + 1 => cnt n F T z i m + if capIx n F T (z m) = i then 1 else 0
theorem cnt_in (n : Nat) (F T : Nat → Int) (z : Nat → Int) (i : Int) (m : Nat) : 0 ≤ cnt n F T z i m ∧ cnt n F T z i m ≤ m := by
  induction m with
  | zero => exact ⟨Int.le_refl _, Int.le_refl _⟩
  | succ m ih => rw [cnt]; split <;> omega
def cnts (n : Nat) (F T : Nat → Int) (z : Nat → Int) (m : Nat) : List Int := listOf n (fun i => cnt n F T z i m)
theorem cnts_set {n : Nat} {F T : Nat → Int} {z : Nat → Int} {m i : Nat} (h : capIx n F T (z m) = i) (hi : i < n) : (cnts n F T z m).set i (cnt n F T z i m + 1) = cnts n F T z (m + 1) := by
  apply List.ext_getElem?
  intro k
  rw [List.getElem?_set]
  unfold cnts
  rcases Nat.lt_or_ge k n with hk | hk
  · rw [listOf_get hk, listOf_len, listOf_get hk, cnt]
    by_cases hik : i = k
    · subst hik; rw [if_pos rfl, if_pos hi, if_pos h]
    · rw [if_neg hik, if_neg (by omega)]; simp
  · rw [List.getElem?_eq_none (by rw [listOf_len]; exact hk), List.getElem?_eq_none (by rw [listOf_len]; exact hk), listOf_len]
    rw [if_neg (by omega)]
theorem cnts_keep {n : Nat} {F T : Nat → Int} {z : Nat → Int} {m : Nat} (h : capIx n F T (z m) < 0) : cnts n F T z (m + 1) = cnts n F T z m := by
  unfold cnts listOf
  apply List.map_congr_left
  intro k _
  rw [cnt, if_neg (by omega)]; omega
theorem cnts_zero (n : Nat) (F T : Nat → Int) (z : Nat → Int) : List.replicate n (0 : Int) = cnts n F T z 0 := by
  apply List.ext_getElem?
  intro k
  rcases Nat.lt_or_ge k n with hk | hk
  · unfold cnts; rw [listOf_get hk, List.getElem?_replicate, if_pos hk]; rfl
  · rw [List.getElem?_eq_none (by simpa using hk), List.getElem?_eq_none (by unfold cnts; rw [listOf_len]; exact hk)]
theorem cnts_len (n : Nat) (F T : Nat → Int) (z : Nat → Int) (m : Nat) : (cnts n F T z m).length = n := listOf_len _ _
theorem cnts_nth {n : Nat} {F T : Nat → Int} {z : Nat → Int} {m k : Nat} (h : k < n) : nth (cnts n F T z m) k = cnt n F T z k m := listOf_nth h
def demE (n : Nat) (F T M : Nat → Int) (nt : Nat) (z : Nat → Int) : Int := if fchk n F T M ≠ 0 then fchk n F T M else if 256 < nt then 2 else tsc z nt
def demL (n : Nat) (F T M : Nat → Int) (nt : Nat) (z : Nat → Int) : List Int := if demE n F T M nt z = 0 then cnts n F T z nt else []
def demN (n : Nat) (F T M : Nat → Int) (nt : Nat) (z : Nat → Int) : Int := if demE n F T M nt z = 0 then cnt n F T z (-1) nt else 0
theorem dem_no {n : Nat} {F T M : Nat → Int} {nt : Nat} {z : Nat → Int} {k : Int} (h : demE n F T M nt z = k) (hk : k ≠ 0) : demL n F T M nt z = [] ∧ demN n F T M nt z = 0 := by
  unfold demL demN; rw [h, if_neg hk, if_neg hk]; exact ⟨rfl, rfl⟩
theorem dem_yes {n : Nat} {F T M : Nat → Int} {nt : Nat} {z : Nat → Int} (h : demE n F T M nt z = 0) : demL n F T M nt z = cnts n F T z nt ∧ demN n F T M nt z = cnt n F T z (-1) nt := by
  unfold demL demN; rw [h, if_pos rfl, if_pos rfl]; exact ⟨rfl, rfl⟩
theorem capIx_cases (n : Nat) (F T : Nat → Int) (x : Int) : capIx n F T x = -1 ∨ ∃ i : Nat, i < n ∧ capIx n F T x = i ∧ F i ≤ x ∧ x < T i := by
  rcases firstIx_cases (fun i => inSpan (F i) (T i) x) n with h | ⟨i, h1, h2, h3, -⟩
  · exact .inl h.1
  · right
    unfold inSpan at h3
    have := of_decide_eq_true h3
    exact ⟨i, h1, h2, this.1, this.2⟩
theorem nilMade {w w' : World} {E : TypeId} {l : List Int} {more : List Value} (hl : l = []) (hb : Below w.heap.size w w') : MadeInts w E l more (.returned (.tuple (.slice none 0 0 :: more).toArray)) w' :=
  ⟨_, rfl, by subst hl; exact World.ownsRow_nil _ _ _ _, hb⟩

set_option maxRecDepth 100000 in
set_option maxHeartbeats 2000000 in
theorem fdemand_any (a : Option Addr) (n c : Nat) (F T M : Nat → Int) (at_ : Option Addr) (nt ct : Nat) (z : Nat → Int) (w : World) (hm : n ≤ maxLen) (hR : CapsAt w a n F T M) (hmt : nt ≤ maxLen) (hRt : IntsAt w at_ nt z) :
    Calls Try.prog 16 #[.slice a n c, .slice at_ nt ct] w (MadeInts w 3 (demL n F T M nt z) [.int .i64 (demN n F T M nt z), .int .i64 (demE n F T M nt z)]) := by
  generalize hr : demE n F T M nt z = r
  have HR := Lib.hid hr; clear hr
  have HRow := Lib.hid hR; clear hR
  have HRt := Lib.hid hRt; clear hRt
  have HM := Lib.hid hm
  obtain ⟨i0, hi, hz0, hz1, hz2⟩ := info_parts info_int
  go_enter Try.func16, Try.ntmps16
  go_wp2_with fail
  refine (fcheck_any a n c F T M _ hm HRow.out).mono ?_
  rintro e w1 ⟨rfl, hb⟩
  have hB := hb; clear hb
  have hz := hB.size
  generalize hk : fchk n F T M = k
  unfold maxLen at hm hmt
  by_cases h0 : k = 0
  · subst h0
    have hg := fchk_good hk
    have hn := hg.1
    have HK := Lib.hid hk; clear hk hg
    by_cases hbig : 256 < nt
    · have hd : decide (256 < nt) = true := by simpa using hbig
      have HE : Hid (r = 2) := Lib.hid (by rw [← HR.out, demE, HK.out, if_neg (by decide), if_pos hbig])
      go_wp2_with fail
      go_returns
      have hno := dem_no HR.out (by rw [HE.out]; decide)
      rw [hno.2, HE.out]
      exact nilMade hno.1 hB
    have hd : decide (256 < nt) = false := by simpa using hbig
    have HE : Hid (r = tsc z nt) := Lib.hid (by rw [← HR.out, demE, HK.out, if_neg (by decide), if_neg hbig])
    go_wp2_with (at_make; refine wpList_make_full _ rfl _ _ 23 rfl w.heap.size 3 i0 (.int .i64 0) 1 Try.underlying23 hi hz0 hz1 .i64 .i64 _ _ n rfl rfl rfl rfl ?c1 ?c2 ?c3 ?_)
    case c1 => rw [hz2]; omega
    case c2 => unfold maxLen; omega
    case c3 => omega
    intro w2 hown hgr
    have hown' : w2.ownsRow w.heap.size 3 1 (.slice (some ⟨w1.heap.size, 0, none⟩) n n) n (ints (cnts n F T z 0)) := by
      have := hown
      rw [toList_madeCells_one, ints_replicate, cnts_zero n F T z] at this
      exact this
    have HO := Lib.hid hown'; clear hown hown'
    have hB2 : Below w.heap.size w w2 := hB.grown hgr hz (fun k hk => by cases hk)
    clear hgr hB
    go_wp2_with fail
    go_loopw [9, 26] (fun s i wr => ∃ j : Nat, j ≤ nt ∧ i = .int .i64 j ∧ s = .int .i64 (cnt n F T z (-1) j) ∧ Hid (tsc z j = 0) ∧ Hid (wr.ownsRow w.heap.size 3 1 (.slice (some ⟨w1.heap.size, 0, none⟩) n n) n (ints (cnts n F T z j))) ∧ Below w.heap.size w wr) (fun _ i _ => nt - (intOf i).toNat)
    case atStart => exact ⟨0, by omega, rfl, rfl, Lib.hid rfl, HO, hB2⟩
    case round =>
      clear hB2 HO
      obtain ⟨j, hj, rfl, rfl, HS, HO, hB⟩ := hrel
      have hzr := hB.size
      by_cases hlt : j < nt
      · obtain ⟨b, off, rfl, hbl, hcell⟩ := (HRt.out.below hB (Nat.le_refl _)) (by omega)
        have e1 := int_cell hcell j hlt
        have HC := Lib.hid hcell; clear hcell
        by_cases htb : tbad (z j)
        · have HV : Hid (r = 12) := Lib.hid (by rw [HE.out]; exact (tsc_stays (by rw [tsc_bad HS.out htb]; decide) nt hlt).trans (tsc_bad HS.out htb))
          unfold tbad at htb
          have hno := dem_no HR.out (by rw [HV.out]; decide)
          have HNo := Lib.hid hno; clear hno
          by_cases ht0 : z j < 0
          · clear htb
            go_wp2_with fail
            go_returns
            rw [HNo.out.2, HV.out]
            exact nilMade HNo.out.1 hB
          · have ht1 : 200000 < z j := by omega
            clear htb
            go_wp2_with fail
            go_returns
            rw [HNo.out.2, HV.out]
            exact nilMade HNo.out.1 hB
        · have HS2 := Lib.hid (tsc_next HS.out htb)
          unfold tbad at htb
          have ht0 : 0 ≤ z j := by omega
          have ht1 : z j ≤ 200000 := by omega
          clear htb
          go_wp2_with fail
          refine (findex_any a n c F T M (z j) _ HM.out (HRow.out.below hB (Nat.le_refl _))).mono ?_
          rintro e w3 ⟨rfl, hb⟩
          have hB3 := hB.trans (hb.mono hzr)
          have HO3 := Lib.hid (ownsRow_after HO.out hb)
          have hz3 := hB3.size
          clear hb hB HO e1
          obtain ⟨q1, q2⟩ := cnt_in n F T z (-1) j
          rcases capIx_cases n F T (z j) with hx | ⟨i, hin, hx, -, -⟩
          · rw [hx]
            have HX1 := Lib.hid (cnts_keep (z := z) (m := j) (n := n) (F := F) (T := T) (by rw [hx]; decide))
            have HX2 : Hid (cnt n F T z (-1) (j + 1) = cnt n F T z (-1) j + 1) := Lib.hid (by rw [cnt, if_pos hx])
            clear hx
            go_wp2_with fail
            go_roundw
            case rel => exact ⟨j + 1, by omega, by go_num, by rw [HX2.out], HS2, Lib.hid (by rw [HX1.out]; exact HO3.out), hB3⟩
            case measure => simp [intOf]; omega
          · rw [hx]
            have HX1 := Lib.hid (cnts_set (z := z) (m := j) hx hin)
            have HX2 : Hid (cnt n F T z (-1) (j + 1) = cnt n F T z (-1) j) := Lib.hid (by rw [cnt, if_neg (by omega)]; omega)
            clear hx
            obtain ⟨q3, q4⟩ := cnt_in n F T z i j
            have y1 : w3.cell? ⟨w1.heap.size, i, none⟩ = some (.int .i64 (cnt n F T z i j)) := by
              rw [HO3.out.cellAt i (by omega), ints_get (by rw [cnts_len]; exact hin), cnts_nth hin]
            have y2 := HO3.out.frozenAt i
            have HO4 : Hid ((w3.setCell ⟨w1.heap.size, i, none⟩ (.int .i64 (cnt n F T z i j + 1))).ownsRow w.heap.size 3 1 (.slice (some ⟨w1.heap.size, 0, none⟩) n n) n (ints (cnts n F T z (j + 1)))) := Lib.hid (by
              have := (HO3.out.stored i (.int .i64 (cnt n F T z i j + 1))).1
              rw [ints_set, HX1.out] at this
              exact this)
            have hi0 : ((0 : Int) ≤ (i : Int)) := by omega
            go_wp2_with fail
            go_roundw
            case rel => exact ⟨j + 1, by omega, by go_num, by rw [HX2.out], HS2, HO4, hB3.setCell hz _⟩
            case measure => simp [intOf]; omega
      · obtain rfl : j = nt := by omega
        have hyes := dem_yes (HR.out.trans (HE.out.trans HS.out))
        have HY := Lib.hid hyes; clear hyes
        have HV := Lib.hid (HE.out.trans HS.out)
        go_wp2_with fail
        go_returns
        rw [HY.out.1, HY.out.2, HV.out]
        exact ⟨_, rfl, by rw [cnts_len]; exact HO.out, hB⟩
  · have hk' : (k != 0) = true := by simpa using h0
    have HE : Hid (r = k) := Lib.hid (by rw [← HR.out, demE, hk, if_pos h0])
    have H0 := Lib.hid h0; clear h0 hk
    go_wp2_with fail
    go_returns
    have hno := dem_no HR.out (by rw [HE.out]; exact H0.out)
    rw [hno.2, HE.out]
    exact nilMade hno.1 hB

end Go.Proofs.Ytfhcciepaangiaa
