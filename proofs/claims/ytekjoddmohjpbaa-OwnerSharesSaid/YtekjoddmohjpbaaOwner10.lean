/- Equal at entries and at strings. -/
import Derived.Test.YtekjoddmohjpbaaOwner9
set_option linter.unusedVariables false
set_option linter.unusedSimpArgs false
namespace Go.Proofs.Ytekjoddmohjpbaa
open Go.RowKit
attribute [local go_sem ↓] Go.wp_at_zero Go.wp_at_succ

theorem ent_neq (a b c x y z : ByteArray) (w : World) : (binOp .neq 32 (.agg #[.string a, .string b, .string c]) (.agg #[.string x, .string y, .string z])).run Try.prog w = .ok (.bool (!(a.toList == x.toList && b.toList == y.toList && c.toList == z.toList))) w := by
  rw [run_neq_struct, run_equalIn_agg (P := Try.prog) w 9999 32 _ _ (by kernel_rfl) (by kernel_rfl)]
  simp only [Program.fieldsOf, Try.underlying32]
  simp [Op.eqFields, go_sem]
  by_cases h1 : a.toList = x.toList <;> by_cases h2 : b.toList = y.toList <;> by_cases h3 : c.toList = z.toList <;> simp [h1, h2, h3]
theorem ent_same {x y : OEntry} (h : x = y) : (!(x.call.toList == y.call.toList && x.own.toList == y.own.toList && x.off.toList == y.off.toList)) = false := by rw [h]; simp
theorem ent_diff {x y : OEntry} (h : x ≠ y) : (!(x.call.toList == y.call.toList && x.own.toList == y.own.toList && x.off.toList == y.off.toList)) = true := by
  obtain ⟨a, b, c⟩ := x
  obtain ⟨a', b', c'⟩ := y
  cases hh : (a.toList == a'.toList && b.toList == b'.toList && c.toList == c'.toList) with
  | false => rfl
  | true =>
    simp only [Bool.and_eq_true, beq_iff_eq] at hh
    exact absurd (by rw [str_inj hh.1.1, str_inj hh.1.2, str_inj hh.2]) h

set_option maxRecDepth 100000 in
set_option maxHeartbeats 1000000 in
theorem equal_ents (a1 : Option Addr) (c1 : Nat) (l : List OEntry) (a2 : Option Addr) (c2 : Nat) (m : List OEntry) (w : World) (hs1 : entE.Slc w a1 c1 l) (hs2 : entE.Slc w a2 c2 m) :
    Calls Try.prog 11 #[.slice a1 l.length c1, .slice a2 m.length c2] w fun e w' => e = .returned (.bool (decide (l = m))) ∧ Below w.heap.size w w' := by
  have hm := hs1.max
  have hm2 := hs2.max
  have h1 := hs1.row
  have h2 := hs2.row
  clear hs1 hs2
  unfold maxLen at hm hm2
  generalize hr : decide (l = m) = r
  have HR := Lib.hid hr; clear hr
  have H1 := Lib.hid h1; have H2 := Lib.hid h2; clear h1 h2
  have hq := ent_neq
  by_cases hne : l.length = m.length
  · rw [← hne]
    generalize hn : l.length = n at hm hm2 hne ⊢
    have HN := Lib.hid hn; have HNM := Lib.hid hne; clear hn hne hm2
    have hd : ((n : Int) != (n : Int)) = false := by simp
    go_enter Try.func11, Try.ntmps11
    go_wp2_with fail
    go_loopw [13] (fun i wr => ∃ k : Nat, k ≤ n ∧ i = .int .i64 k ∧ Hid (∀ j, j < k → el l j = el m j) ∧ Below w.heap.size w wr) (fun i _ => n - (intOf i).toNat)
    case atStart => exact ⟨0, by omega, rfl, Lib.hid (fun j hj => absurd hj (by omega)), by go_grown⟩
    case round =>
      obtain ⟨k, hk, rfl, HS, hB⟩ := hrel
      have hz := hB.size
      by_cases hlt : k < n
      · obtain ⟨b, off, rfl, hbl, e1, f1, g1⟩ := entE_cell (H1.out.below hB (Nat.le_refl _)) k (by rw [HN.out]; exact hlt)
        obtain ⟨b', off', rfl, hbl', e2, f2, g2⟩ := entE_cell (H2.out.below hB (Nat.le_refl _)) k (by rw [← HNM.out]; exact hlt)
        by_cases hv : el l k = el m k
        · have hvd : (!((el l k).call.toList == (el m k).call.toList && (el l k).own.toList == (el m k).own.toList && (el l k).off.toList == (el m k).off.toList)) = false := by exact ent_same hv
          have HS2 : Hid (∀ j, j < k + 1 → el l j = el m j) := Lib.hid (fun j hj => by
            rcases Nat.lt_or_ge j k with h | h
            · exact HS.out j h
            · obtain rfl : j = k := by omega
              exact hv)
          clear hv
          go_wp2_with fail
          go_quiet (fail)
          go_wp2_with fail
          go_roundw
          case rel => exact ⟨k + 1, by omega, by go_num, HS2, below_drewN hB _⟩
          case measure => simp [intOf]; omega
        · have hvd : (!((el l k).call.toList == (el m k).call.toList && (el l k).own.toList == (el m k).own.toList && (el l k).off.toList == (el m k).off.toList)) = true := by exact ent_diff hv
          have HV : Hid (l ≠ m) := Lib.hid (fun h => hv (by rw [h]))
          clear hv
          go_wp2_with fail
          go_quiet (fail)
          go_wp2_with fail
          go_returns
          exact ⟨ret_bool (by rw [← HR.out, decide_eq_false HV.out]), below_drewN hB _⟩
      · have HV : Hid (l = m) := Lib.hid (list_ext (by rw [HN.out, HNM.out]) (fun j hj => HS.out j (by rw [HN.out] at hj; omega)))
        go_wp2_with fail
        go_returns
        exact ⟨ret_bool (by rw [← HR.out, decide_eq_true HV.out]), hB⟩
  · have HV : Hid (l ≠ m) := Lib.hid (fun h => hne (by rw [h]))
    generalize l.length = n1 at hm hne ⊢
    generalize m.length = n2 at hm2 hne ⊢
    have hd : ((n1 : Int) != (n2 : Int)) = true := by simp; omega
    have hd2 : ((n1 : Nat) != n2) = true := by simpa using hne
    go_enter Try.func11, Try.ntmps11
    go_wp2_with fail
    go_returns
    exact ⟨ret_bool (by rw [← HR.out, decide_eq_false HV.out]), by go_grown⟩

set_option maxRecDepth 100000 in
set_option maxHeartbeats 1000000 in
theorem equal_strs (a1 : Option Addr) (c1 : Nat) (l : List ByteArray) (a2 : Option Addr) (c2 : Nat) (m : List ByteArray) (w : World) (hs1 : strE.Slc w a1 c1 l) (hs2 : strE.Slc w a2 c2 m) :
    Calls Try.prog 16 #[.slice a1 l.length c1, .slice a2 m.length c2] w fun e w' => e = .returned (.bool (decide (l = m))) ∧ Below w.heap.size w w' := by
  have hm := hs1.max
  have hm2 := hs2.max
  have h1 := hs1.row
  have h2 := hs2.row
  clear hs1 hs2
  unfold maxLen at hm hm2
  generalize hr : decide (l = m) = r
  have HR := Lib.hid hr; clear hr
  have H1 := Lib.hid h1; have H2 := Lib.hid h2; clear h1 h2
  by_cases hne : l.length = m.length
  · rw [← hne]
    generalize hn : l.length = n at hm hm2 hne ⊢
    have HN := Lib.hid hn; have HNM := Lib.hid hne; clear hn hne hm2
    have hd : ((n : Int) != (n : Int)) = false := by simp
    go_enter Try.func16, Try.ntmps16
    go_wp2_with fail
    go_loopw [13] (fun i wr => ∃ k : Nat, k ≤ n ∧ i = .int .i64 k ∧ Hid (∀ j, j < k → el l j = el m j) ∧ Below w.heap.size w wr) (fun i _ => n - (intOf i).toNat)
    case atStart => exact ⟨0, by omega, rfl, Lib.hid (fun j hj => absurd hj (by omega)), by go_grown⟩
    case round =>
      obtain ⟨k, hk, rfl, HS, hB⟩ := hrel
      have hz := hB.size
      by_cases hlt : k < n
      · obtain ⟨b, off, rfl, hbl, e1⟩ := strE_cell (H1.out.below hB (Nat.le_refl _)) k (by rw [HN.out]; exact hlt)
        obtain ⟨b', off', rfl, hbl', e2⟩ := strE_cell (H2.out.below hB (Nat.le_refl _)) k (by rw [← HNM.out]; exact hlt)
        by_cases hv : el l k = el m k
        · have hvd : (!((el l k).toList == (el m k).toList)) = false := by rw [str_same hv]; rfl
          have HS2 : Hid (∀ j, j < k + 1 → el l j = el m j) := Lib.hid (fun j hj => by
            rcases Nat.lt_or_ge j k with h | h
            · exact HS.out j h
            · obtain rfl : j = k := by omega
              exact hv)
          clear hv
          go_wp2_with fail
          go_quiet (fail)
          go_wp2_with fail
          go_roundw
          case rel => exact ⟨k + 1, by omega, by go_num, HS2, below_drewN hB _⟩
          case measure => simp [intOf]; omega
        · have hvd : (!((el l k).toList == (el m k).toList)) = true := by rw [str_diff hv]; rfl
          have HV : Hid (l ≠ m) := Lib.hid (fun h => hv (by rw [h]))
          clear hv
          go_wp2_with fail
          go_quiet (fail)
          go_wp2_with fail
          go_returns
          exact ⟨ret_bool (by rw [← HR.out, decide_eq_false HV.out]), below_drewN hB _⟩
      · have HV : Hid (l = m) := Lib.hid (list_ext (by rw [HN.out, HNM.out]) (fun j hj => HS.out j (by rw [HN.out] at hj; omega)))
        go_wp2_with fail
        go_returns
        exact ⟨ret_bool (by rw [← HR.out, decide_eq_true HV.out]), hB⟩
  · have HV : Hid (l ≠ m) := Lib.hid (fun h => hne (by rw [h]))
    generalize l.length = n1 at hm hne ⊢
    generalize m.length = n2 at hm2 hne ⊢
    have hd : ((n1 : Int) != (n2 : Int)) = true := by simp; omega
    have hd2 : ((n1 : Nat) != n2) = true := by simpa using hne
    go_enter Try.func16, Try.ntmps16
    go_wp2_with fail
    go_returns
    exact ⟨ret_bool (by rw [← HR.out, decide_eq_false HV.out]), by go_grown⟩

end Go.Proofs.Ytekjoddmohjpbaa
