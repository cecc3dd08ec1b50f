/- What owner.place and Of return, for every input. -/
import Derived.Test.YtekjoddmohjpbaaOwner1
set_option linter.unusedVariables false
set_option linter.unusedSimpArgs false
namespace Go.Proofs.Ytekjoddmohjpbaa
open Go.RowKit
attribute [local go_sem ↓] Go.wp_at_zero Go.wp_at_succ

def geS (a b : ByteArray) : Bool := !(Op.bytesLess a.toList b.toList)
set_option maxHeartbeats 400000 in
theorem ge_any (x : OEntry) (s : ByteArray) (ad : Addr) (b : Nat) (hab : ad = ⟨b, 0, none⟩) (w : World) (hb : Blk w b (.cells #[.string s] 9)) :
    Calls Try.prog 37 #[.agg #[.string x.call, .string x.own, .string x.off], .pointer (some ad)] w fun e w' => e = .returned (.bool (geS x.call s)) ∧ Below w.heap.size w w' := by
  subst hab
  obtain ⟨l, c0, f0⟩ := hb.one
  clear hb
  go_enter Try.func37, Try.ntmps37
  go_wp2_with fail
  go_returns
  exact ⟨rfl, by go_grown⟩

set_option maxRecDepth 100000 in
set_option maxHeartbeats 1000000 in
theorem ixf_ge (a : Option Addr) (c : Nat) (l : List OEntry) (cp0 : Addr) (p : OEntry → Bool) (w : World) (hs : entE.Slc w a c l)
    (hcall : ∀ i, i < l.length → ∀ W, Below w.heap.size w W → Calls Try.prog 37 #[.agg #[.string (el l i).call, .string (el l i).own, .string (el l i).off], .pointer (some cp0)] W fun e w' => e = .returned (.bool (p (el l i))) ∧ Below W.heap.size W w') :
    Calls Try.prog 36 #[.slice a l.length c, .func (.func 37) #[] #[.pointer (some cp0)]] w fun e w' => e = .returned (.int .i64 (idxP p l)) ∧ Below w.heap.size w w' := by
  have hm := hs.max
  have hR := hs.row
  clear hs
  unfold maxLen at hm
  generalize hr : idxP p l = r
  have HR := Lib.hid hr; clear hr
  have HRow := Lib.hid hR; clear hR
  have HCall := Lib.hid hcall; clear hcall
  generalize hn : l.length = n at hm ⊢
  have HN := Lib.hid hn; clear hn
  go_enter Try.func36, Try.ntmps36
  go_wp2_with fail
  go_loopw [8] (fun i wr => ∃ k : Nat, k ≤ n ∧ i = .int .i64 k ∧ Hid (∀ j, j < k → p (el l j) = false) ∧ Below w.heap.size w wr) (fun i _ => n - (intOf i).toNat)
  case atStart => exact ⟨0, by omega, rfl, Lib.hid (fun j hj => absurd hj (by omega)), by go_grown⟩
  case round =>
    obtain ⟨k, hk, rfl, HS, hB⟩ := hrel
    have hz := hB.size
    by_cases hlt : k < n
    · obtain ⟨b, off, rfl, hbl, e1, e2, e3⟩ := entE_cell (HRow.out.below hB (Nat.le_refl _)) k (by rw [HN.out]; exact hlt)
      have hcc := HCall.out k (by rw [HN.out]; exact hlt) wr hB
      cases hp : p (el l k) with
      | true =>
        rw [hp] at hcc
        have HCC := Lib.hid hcc; clear hcc
        have HV := Lib.hid (firstIx_at (p := fun i => p (el l i)) HS.out hp (by rw [HN.out]; exact hlt : k < l.length)); clear hp
        go_wp2_with fail
        refine HCC.out.mono ?_
        rintro e w1 ⟨rfl, hb⟩
        have hB1 : Below w.heap.size w w1 := hB.trans (hb.mono hz)
        clear hb
        go_wp2_with fail
        go_returns
        exact ⟨ret_int (by rw [← HR.out, idxP, HV.out]), hB1⟩
      | false =>
        rw [hp] at hcc
        have HCC := Lib.hid hcc; clear hcc
        have HS2 : Hid (∀ j, j < k + 1 → p (el l j) = false) := Lib.hid (fun j hj => by
          rcases Nat.lt_or_ge j k with h | h
          · exact HS.out j h
          · obtain rfl : j = k := by omega
            exact hp)
        clear hp
        go_wp2_with fail
        refine HCC.out.mono ?_
        rintro e w1 ⟨rfl, hb⟩
        have hB1 : Below w.heap.size w w1 := hB.trans (hb.mono hz)
        clear hb
        go_wp2_with fail
        go_roundw
        case rel => exact ⟨k + 1, by omega, by go_num, HS2, hB1⟩
        case measure => simp [intOf]; omega
    · have HV := Lib.hid (firstIx_none (p := fun i => p (el l i)) (n := l.length) (fun j hj => HS.out j (by rw [HN.out] at hj; omega)))
      go_wp2_with fail
      go_returns
      exact ⟨ret_int (by rw [← HR.out, idxP, HV.out]), hB⟩

def plX (l : List OEntry) (s : ByteArray) : Int := idxP (fun x => geS x.call s) l
def plN (l : List OEntry) (s : ByteArray) : Nat := if plX l s < 0 then l.length else (plX l s).toNat
def plB (l : List OEntry) (s : ByteArray) : Bool := decide (plN l s < l.length ∧ (el l (plN l s)).call = s)
theorem plX_cases (l : List OEntry) (s : ByteArray) : (plX l s = -1 ∧ plN l s = l.length) ∨ ∃ i : Nat, i < l.length ∧ plX l s = i ∧ plN l s = i := by
  unfold plN plX idxP
  rcases firstIx_cases (fun i => geS (el l i).call s) l.length with ⟨h1, -⟩ | ⟨i, h1, h2, -, -⟩
  · left; rw [h1]; exact ⟨rfl, if_pos (by decide)⟩
  · right; exact ⟨i, h1, h2, by rw [h2, if_neg (by omega)]; omega⟩
theorem plN_le (l : List OEntry) (s : ByteArray) : plN l s ≤ l.length := by
  rcases plX_cases l s with ⟨-, h⟩ | ⟨i, h1, -, h2⟩ <;> omega
set_option maxRecDepth 100000 in
set_option maxHeartbeats 1000000 in
theorem place_any (a : Option Addr) (c : Nat) (l : List OEntry) (s : ByteArray) (w : World) (hs : entE.Slc w a c l) :
    Calls Try.prog 24 #[.slice a l.length c, .string s] w fun e w' => e = .returned (.tuple #[.int .i64 (plN l s), .bool (plB l s)]) ∧ Below w.heap.size w w' := by
  have hm := hs.max
  unfold maxLen at hm
  have HS := Lib.hid hs; clear hs
  generalize hr : plB l s = r
  have HR := Lib.hid hr; clear hr
  go_enter Try.func24, Try.ntmps24
  go_wp2_with fail
  refine (ixf_ge a c l _ (fun x => geS x.call s) _ (HS.out.after (by repeat' (first | exact Below.refl _ _ | assumption | (with_reducible refine Below.alloc ?_ ?_ _) | (with_reducible refine below_drewN ?_ _) | (with_reducible refine Below.drew ?_) | (with_reducible refine Below.setCell ?_ ?_ _) | go_size))) (fun i hi W hW => ge_any _ s _ w.heap.size rfl W ((Blk.new w _).below hW (by simp)))).mono ?_
  rintro e w1 ⟨rfl, hb⟩
  have Bs := Lib.hid (Blk.after (Blk.new w (.cells #[.string s] 9)) hb)
  have hB : Below w.heap.size w w1 := Below.step (by repeat' (first | exact Below.refl _ _ | assumption | (with_reducible refine Below.alloc ?_ ?_ _) | (with_reducible refine below_drewN ?_ _) | (with_reducible refine Below.drew ?_) | (with_reducible refine Below.setCell ?_ ?_ _) | go_size)) hb (by go_size)
  clear hb
  obtain ⟨ls, x0, -⟩ := Bs.out.one
  have hx : idxP (fun x => geS x.call s) l = plX l s := rfl
  rw [hx]
  clear hx
  rcases plX_cases l s with ⟨h1, h2⟩ | ⟨i, hi, h1, h2⟩
  · rw [h1]
    have H2 := Lib.hid h2
    have HV : Hid (r = false) := Lib.hid (by rw [← HR.out, plB, h2, decide_eq_false (fun h => by omega)])
    clear h1 h2
    have hd : decide (l.length < l.length) = false := decide_eq_false (by omega)
    have hd2 : decide ((l.length : Int) < (l.length : Int)) = false := decide_eq_false (by omega)
    go_wp2_with fail
    go_quiet (fail)
    go_wp2_with fail
    go_returns
    exact ⟨ret_eq (by rw [HV.out, H2.out]; rfl), below_drewN hB _⟩
  · rw [h1]
    have H2 := Lib.hid h2
    have hpb : r = decide ((el l i).call = s) := by
      rw [← HR.out, plB, h2]
      by_cases he : (el l i).call = s
      · rw [decide_eq_true ⟨hi, he⟩, decide_eq_true he]
      · rw [decide_eq_false (fun h => he h.2), decide_eq_false he]
    clear h1 h2
    have hd : decide (i < l.length) = true := decide_eq_true hi
    have hi0 : (0 : Int) ≤ (i : Int) := by omega
    have hi1 : (i : Int) < (l.length : Int) := by omega
    obtain ⟨b, off, rfl, hbl, e1, -, -⟩ := entE_cell (HS.out.row.below hB (Nat.le_refl _)) i hi
    generalize (el l i).call = xc at e1 hpb
    by_cases he : xc = s
    · have he2 := str_same he
      have HV : Hid (r = true) := Lib.hid (by rw [hpb, decide_eq_true he])
      have HE := Lib.hid he
      clear he hpb
      go_wp2_with fail
      go_quiet (fail)
      go_wp2_with fail
      go_returns
      exact ⟨ret_eq (by rw [HV.out, H2.out]; rfl), below_drewN hB _⟩
    · have he2 := str_diff he
      have HV : Hid (r = false) := Lib.hid (by rw [hpb, decide_eq_false he])
      have HE := Lib.hid he
      clear he hpb
      go_wp2_with fail
      go_quiet (fail)
      go_wp2_with fail
      go_returns
      exact ⟨ret_eq (by rw [HV.out, H2.out]; rfl), below_drewN hB _⟩
/- Of -/
def ofE (l : List OEntry) (s : ByteArray) : Int := if ochk l ≠ 0 then ochk l else if plB l s = true then 0 else 8
def ofV (l : List OEntry) (s : ByteArray) : ByteArray := if ofE l s = 0 then (el l (plN l s)).own else noS
theorem noS_val : (Value.string ⟨#[]⟩) = .string noS := rfl
set_option maxRecDepth 100000 in
set_option maxHeartbeats 1000000 in
theorem of_any (a : Option Addr) (c : Nat) (l : List OEntry) (s : ByteArray) (w : World) (hs : entE.Slc w a c l) (hok : EntsOk l) :
    Calls Try.prog 8 #[.slice a l.length c, .string s] w fun e w' => e = .returned (.tuple #[.string (ofV l s), .int .i64 (ofE l s)]) ∧ Below w.heap.size w w' := by
  have hm := hs.max
  unfold maxLen at hm
  have HS := Lib.hid hs; have HOk := Lib.hid hok; clear hs hok
  generalize hr : Value.tuple #[.string (ofV l s), .int .i64 (ofE l s)] = r
  have HR := Lib.hid hr; clear hr
  go_enter Try.func8, Try.ntmps8
  go_wp2_with fail
  refine (ocheck_any a c l _ HS.out HOk.out).mono ?_
  rintro e w1 ⟨rfl, hb⟩
  have hB := hb; clear hb
  have hz := hB.size
  generalize hk : ochk l = k
  by_cases h0 : k = 0
  · subst h0
    have HK := Lib.hid hk; clear hk
    go_wp2_with fail
    refine (place_any a c l s _ (HS.out.after hB)).mono ?_
    rintro e w2 ⟨rfl, hb⟩
    have hB2 := hB.trans (hb.mono hz)
    clear hb
    cases hp : plB l s with
    | false =>
      have HE : Hid (ofE l s = 8) := Lib.hid (by unfold ofE; rw [HK.out, hp]; rfl)
      clear hp
      go_wp2_with fail
      go_returns
      exact ⟨ret_eq (by rw [← HR.out, ofV, HE.out]; rfl), hB2⟩
    | true =>
      have HE : Hid (ofE l s = 0) := Lib.hid (by unfold ofE; rw [HK.out, hp]; rfl)
      have hi : plN l s < l.length := (of_decide_eq_true hp).1
      have HV : Hid (ofV l s = (el l (plN l s)).own) := Lib.hid (if_pos HE.out)
      clear hp
      generalize plN l s = i at hi HV ⊢
      have hi0 : (0 : Int) ≤ (i : Int) := by omega
      have hi1 : (i : Int) < (l.length : Int) := by omega
      obtain ⟨b, off, rfl, hbl, -, e2, -⟩ := entE_cell (HS.out.row.below hB2 (Nat.le_refl _)) i hi
      go_wp2_with fail
      go_returns
      exact ⟨ret_eq (by rw [← HR.out, HE.out, HV.out]; rfl), hB2⟩
  · have hk' : (k != 0) = true := by simpa using h0
    have HE : Hid (ofE l s = k) := Lib.hid (by unfold ofE; rw [hk, if_pos h0])
    have H0 := Lib.hid h0; clear h0 hk
    go_wp2_with fail
    go_returns
    exact ⟨ret_eq (by rw [← HR.out, ofV, HE.out, if_neg H0.out]; rfl), hB⟩

end Go.Proofs.Ytekjoddmohjpbaa
