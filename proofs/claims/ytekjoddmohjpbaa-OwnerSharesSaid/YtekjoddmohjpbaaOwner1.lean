/- What owner.Check returns, for every input. -/
import Derived.Test.YtekjoddmohjpbaaGen
import Derived.Test.YtekjoddmohjpbaaName
set_option linter.unusedVariables false
set_option linter.unusedSimpArgs false
namespace Go.Proofs.Ytekjoddmohjpbaa
open Go.RowKit
attribute [local go_sem ↓] Go.wp_at_zero Go.wp_at_succ

structure OEntry where
  call : ByteArray
  own : ByteArray
  off : ByteArray
deriving Inhabited, DecidableEq
def entE : Enc OEntry := ⟨fun x => [.string x.call, .string x.own, .string x.off], 3, fun _ => rfl, fun x u hu => by simp at hu; rcases hu with rfl | rfl | rfl <;> rfl, by decide⟩
theorem entE_cell {w : World} {a : Option Addr} {l : List OEntry} (h : entE.At w a l) (i : Nat) (hi : i < l.length) : ∃ b off, a = some ⟨b, off, none⟩ ∧ b < w.heap.size ∧ w.cell? ⟨b, off + i * 3, none⟩ = some (.string (el l i).call) ∧ w.cell? ⟨b, off + i * 3 + 1, none⟩ = some (.string (el l i).own) ∧ w.cell? ⟨b, off + i * 3 + 2, none⟩ = some (.string (el l i).off) := by
  obtain ⟨b, off, ha, hb, hc⟩ := h.cells i hi
  exact ⟨b, off, ha, hb, hc 0 (by decide), by rw [Nat.add_assoc]; exact hc 1 (by decide), by rw [Nat.add_assoc]; exact hc 2 (by decide)⟩
def EntsOk (l : List OEntry) : Prop := ∀ x ∈ l, x.call.size ≤ maxLen ∧ x.own.size ≤ maxLen ∧ x.off.size ≤ maxLen
theorem oname_any (s : ByteArray) (w : World) (hs : s.size ≤ maxLen) : Calls Try.prog 21 #[.string s] w fun e w' => e = .returned (.bool (nameB s)) ∧ Below w.heap.size w w' := by
  go_enter Try.func21, Try.ntmps21
  go_wp2_with fail
  refine (name_any s _ hs).mono ?_
  rintro e w1 ⟨rfl, hb⟩
  go_wp2_with fail
  go_returns
  exact ⟨rfl, hb⟩
def noS : ByteArray := ⟨#[]⟩
def leS (a b : ByteArray) : Bool := Op.bytesLess a.toList b.toList || a.toList == b.toList
def badN (x : OEntry) : Bool := !nameB x.call || !nameB x.own || (!decide (x.off = noS) && !nameB x.off)
def osc (l : List OEntry) : Nat → Int
  | 0 => 0
  | k + 1 => if osc l k ≠ 0 then osc l k else if badN (el l k) = true then 3 else if (el l k).off = (el l k).own then 11 else if 0 < k ∧ leS (el l k).call (el l (k - 1)).call = true then 7 else 0
def ochk (l : List OEntry) : Int := if 24 < l.length then 2 else osc l l.length
theorem osc_stays {l : List OEntry} {m : Nat} (h : osc l m ≠ 0) : ∀ n, m ≤ n → osc l n = osc l m := by
  intro n hn
  induction n with
  | zero => obtain rfl : m = 0 := by omega
            rfl
  | succ n ih =>
    rcases Nat.lt_or_ge n m with h' | h'
    · obtain rfl : m = n + 1 := by omega
      rfl
    · rw [osc, ih h', if_pos h]
theorem ochk_at {l : List OEntry} {m : Nat} {e : Int} (hn : l.length ≤ 24) (h : osc l m = e) (he : e ≠ 0) (hm : m ≤ l.length) : ochk l = e := by
  unfold ochk; rw [if_neg (by omega), osc_stays (by rw [h]; exact he) _ hm, h]
theorem osc_bad {l : List OEntry} {k : Nat} (h : osc l k = 0) (hb : badN (el l k) = true) : osc l (k + 1) = 3 := by rw [osc, if_neg (by omega), if_pos hb]
theorem osc_st {l : List OEntry} {k : Nat} (h : osc l k = 0) (hb : badN (el l k) = false) (ho : (el l k).off = (el l k).own) : osc l (k + 1) = 11 := by rw [osc, if_neg (by omega), if_neg (by rw [hb]; decide), if_pos ho]
theorem osc_tw {l : List OEntry} {k : Nat} (h : osc l k = 0) (hb : badN (el l k) = false) (ho : (el l k).off ≠ (el l k).own) (ht : 0 < k ∧ leS (el l k).call (el l (k - 1)).call = true) : osc l (k + 1) = 7 := by rw [osc, if_neg (by omega), if_neg (by rw [hb]; decide), if_neg ho, if_pos ht]
theorem osc_next {l : List OEntry} {k : Nat} (h : osc l k = 0) (hb : badN (el l k) = false) (ho : (el l k).off ≠ (el l k).own) (ht : ¬ (0 < k ∧ leS (el l k).call (el l (k - 1)).call = true)) : osc l (k + 1) = 0 := by rw [osc, if_neg (by omega), if_neg (by rw [hb]; decide), if_neg ho, if_neg ht]
theorem noS_list : noS.toList = [] := by rw [ByteArray.toList_eq]; rfl
theorem noS_ne {s : ByteArray} (h : s ≠ noS) : (s.toList == []) = false ∧ s.toList.isEmpty = false ∧ (!s.toList.isEmpty) = true := by
  have h1 : s.toList ≠ [] := fun hh => h (str_inj (by rw [hh, noS_list]))
  refine ⟨by simpa using h1, by simpa using h1, by simpa using h1⟩

set_option maxRecDepth 100000 in
set_option maxHeartbeats 4000000 in
theorem ocheck_any (a : Option Addr) (c : Nat) (l : List OEntry) (w : World) (hs : entE.Slc w a c l) (hok : EntsOk l) :
    Calls Try.prog 12 #[.slice a l.length c] w fun e w' => e = .returned (.int .i64 (ochk l)) ∧ Below w.heap.size w w' := by
  have hm := hs.max
  have hR := hs.row
  clear hs
  unfold maxLen at hm
  generalize hr : ochk l = r
  have HR := Lib.hid hr; clear hr
  have HRow := Lib.hid hR; have HAll := Lib.hid hok; clear hR hok
  generalize hn : l.length = n at hm ⊢
  have HN := Lib.hid hn; clear hn
  go_enter Try.func12, Try.ntmps12
  by_cases hb : 24 < n
  · have hd : decide (24 < n) = true := decide_eq_true hb
    go_wp2_with fail
    go_returns
    exact ⟨ret_int (by rw [← HR.out, ochk, HN.out, if_pos hb]), by go_grown⟩
  have hd : decide (24 < n) = false := decide_eq_false hb
  have hn24 : l.length ≤ 24 := by rw [HN.out]; omega
  have HN24 := Lib.hid hn24; clear hn24
  go_wp2_with fail
  go_loopw [10] (fun i wr => ∃ k : Nat, k ≤ n ∧ i = .int .i64 k ∧ Hid (osc l k = 0) ∧ Below w.heap.size w wr) (fun i _ => n - (intOf i).toNat)
  case atStart => exact ⟨0, by omega, rfl, Lib.hid rfl, by go_grown⟩
  case round =>
    obtain ⟨k, hk, rfl, HS, hB⟩ := hrel
    have hz := hB.size
    by_cases hlk : k < n
    · have hlt : k < l.length := by rw [HN.out]; exact hlk
      obtain ⟨b, off, rfl, hbl, e1, e2, e3⟩ := entE_cell (HRow.out.below hB (Nat.le_refl _)) k hlt
      have HOk := Lib.hid (HAll.out _ (el_mem hlt))
      generalize hxc : (el l k).call = xc at e1 HOk
      generalize hxo : (el l k).own = xo at e2 HOk
      generalize hxf : (el l k).off = xf at e3 HOk
      have HXc := Lib.hid hxc; have HXo := Lib.hid hxo; have HXf := Lib.hid hxf
      have HLt := Lib.hid hlt
      clear hxc hxo hxf hlt
      go_wp2_with fail
      refine (oname_any xc _ HOk.out.1).mono ?_
      rintro e w1 ⟨rfl, hb⟩
      have Bx := Lib.hid (Blk.after (Blk.new wr (.cells #[.string xc, .string xo, .string xf] 32)) hb)
      have hB1 : Below w.heap.size w w1 := Below.step (hB.alloc (by omega) _) hb (by simp; omega)
      have hz1 := hB1.size
      clear hb
      obtain ⟨lx, x0, x1, x2, -, -, -⟩ := Bx.out.three
      cases hn1 : nameB xc with
      | false =>
        have HV := Lib.hid (ochk_at HN24.out (osc_bad HS.out (by unfold badN; rw [HXc.out, hn1]; rfl)) (by decide) HLt.out)
        go_wp2_with fail
        go_returns
        exact ⟨ret_int (by rw [← HR.out, HV.out]), by go_grown⟩
      | true =>
        go_wp2_with fail
        refine (oname_any xo _ HOk.out.2.1).mono ?_
        rintro e w2 ⟨rfl, hb⟩
        replace Bx := Lib.hid (Bx.out.after hb)
        have hB2 : Below w.heap.size w w2 := hB1.trans (hb.mono hz1)
        have hz2 := hB2.size
        clear hb
        obtain ⟨lx, x0, x1, x2, -, -, -⟩ := Bx.out.three
        cases hn2 : nameB xo with
        | false =>
          have HV := Lib.hid (ochk_at HN24.out (osc_bad HS.out (by unfold badN; rw [HXc.out, HXo.out, hn1, hn2]; rfl)) (by decide) HLt.out)
          go_wp2_with fail
          go_returns
          exact ⟨ret_int (by rw [← HR.out, HV.out]), by go_grown⟩
        | true =>
          by_cases he : xf = noS
          · have hee : (xf.toList == []) = true := by rw [he, noS_list]; rfl
            have hee2 : xf.toList.isEmpty = true := by rw [he, noS_list]; rfl
            have hee3 : (!xf.toList.isEmpty) = false := by rw [hee2]; rfl
            have HBad : Hid (badN (el l k) = false) := Lib.hid (by unfold badN; rw [HXc.out, HXo.out, HXf.out, hn1, hn2, he]; rfl)
            clear hn1 hn2 he
            by_cases ho : xf = xo
            · have hd1 := str_same ho
              have HV := Lib.hid (ochk_at HN24.out (osc_st HS.out HBad.out (by rw [HXf.out, HXo.out]; exact ho)) (by decide) HLt.out)
              have HO := Lib.hid ho; clear ho
              go_wp2_with fail
              go_returns
              exact ⟨ret_int (by rw [← HR.out, HV.out]), by go_grown⟩
            · have hd1 := str_diff ho
              have HO := Lib.hid ho; clear ho
              rcases Nat.eq_zero_or_pos k with h0 | h0
              · have HS2 := Lib.hid (osc_next HS.out HBad.out (by rw [HXf.out, HXo.out]; exact HO.out) (fun h => by omega))
                have hk0 : k ≤ 0 := by omega
                have hd2 : decide (0 < k) = false := decide_eq_false (by omega)
                clear h0
                go_wp2_with fail
                go_quiet (fail)
                go_wp2_with fail
                go_roundw
                case rel => exact ⟨k + 1, by omega, by go_num, HS2, below_drewN hB2 _⟩
                case measure => simp [intOf]; omega
              · obtain ⟨b', off', hae, -, e4, -, -⟩ := entE_cell (HRow.out.below hB2 (Nat.le_refl _)) (k - 1) (by rw [HN.out]; omega)
                obtain ⟨rfl, rfl⟩ : b = b' ∧ off = off' := by simpa using hae
                have hd2 : decide (0 < k) = true := decide_eq_true h0
                have y1 : IntKind.i64.wrap ((k : Int) - 1) = (k : Int) - 1 := IntWalk.i64_in _ (by omega)
                have y2 : (0 : Int) ≤ (k : Int) - 1 := by omega
                have y3 : ((k : Int) - 1).toNat = k - 1 := by omega
                have y4 : (k : Int) - 1 < (n : Int) := by omega
                generalize hyp : (el l (k - 1)).call = yp at e4
                have HYp := Lib.hid hyp; clear hyp hae
                cases hle : leS xc yp with
                | true =>
                  have HV := Lib.hid (ochk_at HN24.out (osc_tw HS.out HBad.out (by rw [HXf.out, HXo.out]; exact HO.out) ⟨h0, by rw [HXc.out, HYp.out]; exact hle⟩) (by decide) HLt.out)
                  unfold leS at hle
                  go_wp2_with fail
                  go_quiet (fail)
                  go_wp2_with fail
                  go_returns
                  exact ⟨ret_int (by rw [← HR.out, HV.out]), below_drewN hB2 _⟩
                | false =>
                  have HS2 := Lib.hid (osc_next HS.out HBad.out (by rw [HXf.out, HXo.out]; exact HO.out) (fun h => by have h2 := h.2; rw [HXc.out, HYp.out, hle] at h2; cases h2))
                  unfold leS at hle
                  go_wp2_with fail
                  go_quiet (fail)
                  clear y1 y2 y3
                  go_wp2_with fail
                  go_roundw
                  case rel => exact ⟨k + 1, by omega, by go_num, HS2, below_drewN hB2 _⟩
                  case measure => simp [intOf]; omega
          · obtain ⟨hee, hee2, hee3⟩ := noS_ne he
            go_wp2_with fail
            refine (oname_any xf _ HOk.out.2.2).mono ?_
            rintro e w3 ⟨rfl, hb⟩
            replace Bx := Lib.hid (Bx.out.after hb)
            have hB3 : Below w.heap.size w w3 := hB2.trans (hb.mono hz2)
            have hz3 := hB3.size
            clear hb
            obtain ⟨lx, x0, x1, x2, -, -, -⟩ := Bx.out.three
            cases hn3 : nameB xf with
            | false =>
              have HV := Lib.hid (ochk_at HN24.out (osc_bad HS.out (by unfold badN; rw [HXc.out, HXo.out, HXf.out, hn1, hn2, hn3, decide_eq_false he]; rfl)) (by decide) HLt.out)
              go_wp2_with fail
              go_returns
              exact ⟨ret_int (by rw [← HR.out, HV.out]), by go_grown⟩
            | true =>
              have HBad : Hid (badN (el l k) = false) := Lib.hid (by unfold badN; rw [HXc.out, HXo.out, HXf.out, hn1, hn2, hn3]; simp)
              clear hn1 hn2 hn3 he
              by_cases ho : xf = xo
              · have hd1 := str_same ho
                have HV := Lib.hid (ochk_at HN24.out (osc_st HS.out HBad.out (by rw [HXf.out, HXo.out]; exact ho)) (by decide) HLt.out)
                have HO := Lib.hid ho; clear ho
                go_wp2_with fail
                go_returns
                exact ⟨ret_int (by rw [← HR.out, HV.out]), by go_grown⟩
              · have hd1 := str_diff ho
                have HO := Lib.hid ho; clear ho
                rcases Nat.eq_zero_or_pos k with h0 | h0
                · have HS2 := Lib.hid (osc_next HS.out HBad.out (by rw [HXf.out, HXo.out]; exact HO.out) (fun h => by omega))
                  have hk0 : k ≤ 0 := by omega
                  have hd2 : decide (0 < k) = false := decide_eq_false (by omega)
                  clear h0
                  go_wp2_with fail
                  go_quiet (fail)
                  go_wp2_with fail
                  go_roundw
                  case rel => exact ⟨k + 1, by omega, by go_num, HS2, below_drewN hB3 _⟩
                  case measure => simp [intOf]; omega
                · obtain ⟨b', off', hae, -, e4, -, -⟩ := entE_cell (HRow.out.below hB3 (Nat.le_refl _)) (k - 1) (by rw [HN.out]; omega)
                  obtain ⟨rfl, rfl⟩ : b = b' ∧ off = off' := by simpa using hae
                  have hd2 : decide (0 < k) = true := decide_eq_true h0
                  have y1 : IntKind.i64.wrap ((k : Int) - 1) = (k : Int) - 1 := IntWalk.i64_in _ (by omega)
                  have y2 : (0 : Int) ≤ (k : Int) - 1 := by omega
                  have y3 : ((k : Int) - 1).toNat = k - 1 := by omega
                  have y4 : (k : Int) - 1 < (n : Int) := by omega
                  generalize hyp : (el l (k - 1)).call = yp at e4
                  have HYp := Lib.hid hyp; clear hyp hae
                  cases hle : leS xc yp with
                  | true =>
                    have HV := Lib.hid (ochk_at HN24.out (osc_tw HS.out HBad.out (by rw [HXf.out, HXo.out]; exact HO.out) ⟨h0, by rw [HXc.out, HYp.out]; exact hle⟩) (by decide) HLt.out)
                    unfold leS at hle
                    go_wp2_with fail
                    go_quiet (fail)
                    go_wp2_with fail
                    go_returns
                    exact ⟨ret_int (by rw [← HR.out, HV.out]), below_drewN hB3 _⟩
                  | false =>
                    have HS2 := Lib.hid (osc_next HS.out HBad.out (by rw [HXf.out, HXo.out]; exact HO.out) (fun h => by have h2 := h.2; rw [HXc.out, HYp.out, hle] at h2; cases h2))
                    unfold leS at hle
                    go_wp2_with fail
                    go_quiet (fail)
                    clear y1 y2 y3
                    go_wp2_with fail
                    go_roundw
                    case rel => exact ⟨k + 1, by omega, by go_num, HS2, below_drewN hB3 _⟩
                    case measure => simp [intOf]; omega
    · have HV : Hid (r = 0) := Lib.hid (by rw [← HR.out, ochk, if_neg (by have := HN24.out; omega), HN.out, show n = k by omega]; exact HS.out)
      go_wp2_with fail
      go_returns
      exact ⟨ret_int HV.out.symm, hB⟩

end Go.Proofs.Ytekjoddmohjpbaa
