/- What the closures of package owner do. -/
import Derived.Test.YtekjoddmohjpbaaOwner2
set_option linter.unusedVariables false
set_option linter.unusedSimpArgs false
namespace Go.Proofs.Ytekjoddmohjpbaa
open Go.RowKit
attribute [local go_sem ↓] Go.wp_at_zero Go.wp_at_succ

theorem grown_of_below {w w' : World} {row : Option Nat} (h : Below w.heap.size w w') : w.grownBy w' row := ⟨h.os, h.tape, h.output, h.size, fun k hk _ => h.block k hk⟩
def Chg (w : World) (base g n cap : Nat) (l : List OEntry) (er : Int) (i : Nat) (y : OEntry) (e : Ending) (w' : World) : Prop :=
  e = .returned (.int .i64 er) ∧ entE.Own w' base 32 (.slice (some ⟨g, 0, none⟩) n cap) (if er = 0 then l.set i y else l) ∧ w.grownBy w' (some g)
theorem ent_cells {w : World} {base g n cap : Nat} {l : List OEntry} (h : entE.Own w base 32 (.slice (some ⟨g, 0, none⟩) n cap) l) (hn : n = l.length) (i : Nat) (hi : i < l.length) :
    w.cell? ⟨g, i * 3, none⟩ = some (.string (el l i).call) ∧ w.cell? ⟨g, i * 3 + 1, none⟩ = some (.string (el l i).own) ∧ w.cell? ⟨g, i * 3 + 2, none⟩ = some (.string (el l i).off) ∧ w.frozen? ⟨g, i * 3, none⟩ = false ∧ w.frozen? ⟨g, i * 3 + 1, none⟩ = false ∧ w.frozen? ⟨g, i * 3 + 2, none⟩ = false :=
  ⟨(h.cell hn i 0 hi (by decide)).1, (h.cell hn i 1 hi (by decide)).1, (h.cell hn i 2 hi (by decide)).1, (h.cell hn i 0 hi (by decide)).2, (h.cell hn i 1 hi (by decide)).2, (h.cell hn i 2 hi (by decide)).2⟩
def ofrE (x : OEntry) (by_ to : ByteArray) : Int := if x.own ≠ by_ then 16 else if x.off ≠ noS then 11 else if nameB to = false then 3 else if to = by_ then 1 else 0
def ofrX (x : OEntry) (to : ByteArray) : OEntry := ⟨x.call, x.own, to⟩
def accE (x : OEntry) (by_ : ByteArray) : Int := if x.off = noS then 11 else if x.off ≠ by_ then 16 else 0
def accX (x : OEntry) (by_ : ByteArray) : OEntry := ⟨x.call, by_, noS⟩
def canE (x : OEntry) (by_ : ByteArray) : Int := if x.off = noS then 11 else if x.off ≠ by_ ∧ x.own ≠ by_ then 16 else 0
def canX (x : OEntry) : OEntry := ⟨x.call, x.own, noS⟩
def endE (x : OEntry) (by_ : ByteArray) : Int := if x.own ≠ by_ then 16 else 0
def endX (x : OEntry) : OEntry := ⟨noS, x.own, x.off⟩
theorem noS_eq {s : ByteArray} (h : s = noS) : (s.toList == []) = true ∧ s.toList.isEmpty = true ∧ (!s.toList.isEmpty) = false ∧ s.toList = [] := by
  rw [h, noS_list]; exact ⟨rfl, rfl, rfl, rfl⟩

set_option maxRecDepth 100000 in
set_option maxHeartbeats 2000000 in
theorem endc_any (base g n cap : Nat) (l : List OEntry) (i : Nat) (by_ : ByteArray) (b0 : Nat) (w : World) (hown : entE.Own w base 32 (.slice (some ⟨g, 0, none⟩) n cap) l) (hn : n = l.length) (hi : i < l.length) (hb0 : Blk w b0 (.cells #[.string by_] 9))  :
    Calls Try.prog 33 #[.pointer (some ⟨g, i * 3, none⟩), .pointer (some ⟨b0, 0, none⟩)] w (Chg w base g n cap l (endE (el l i) by_) i (endX (el l i))) := by
  obtain ⟨x0, x1, x2, f0, f1, f2⟩ := ent_cells hown hn i hi
  have HO := Lib.hid hown; have HN := Lib.hid hn; clear hown hn
  obtain ⟨lb0, y0, -⟩ := hb0.one
  have HB0 := Lib.hid hb0; clear hb0
  obtain ⟨xe, hxe⟩ : ∃ xe, xe = el l i := ⟨_, rfl⟩
  rw [← hxe] at x0 x1 x2 ⊢
  have HXe := Lib.hid hxe; clear hxe
  obtain ⟨xc, xo, xf⟩ := xe
  simp only at x0 x1 x2
  have HC := Lib.hid HXe.out
  go_enter Try.func33, Try.ntmps33
  by_cases h1 : xo = by_
  · have q1 := str_same h1
    have q1n : (!(xo.toList == by_.toList)) = false := by rw [q1]; rfl
    have HE : Hid (endE ⟨xc, xo, xf⟩ by_ = 0) := Lib.hid (by unfold endE; rw [if_neg (by simpa using h1)])
    have H1 := Lib.hid h1; clear h1
    go_wp2_with fail
    go_quiet (fail)
    go_wp2_with fail
    go_returns
    have hst := (HO.out.after (below_drewN (Below.refl _ _) nq)).set HN.out i 0 (endX ⟨xc, xo, xf⟩) (.string noS) hi (by decide) (by rw [← HXe.out]; rfl)
    exact ⟨ret_int (by rw [HE.out]), by rw [HE.out, if_pos rfl]; exact hst.1, grownBy_two (grown_of_below (below_drewN (Below.refl _ _) nq)) hst.2⟩
  · have q1 := str_diff h1
    have q1n : (!(xo.toList == by_.toList)) = true := by rw [q1]; rfl
    have HE : Hid (endE ⟨xc, xo, xf⟩ by_ = 16) := Lib.hid (by unfold endE; rw [if_pos (by simpa using h1)])
    go_wp2_with fail
    go_quiet (fail)
    go_wp2_with fail
    go_returns
    exact ⟨ret_int (by rw [HE.out]), by rw [HE.out, if_neg (by decide)]; exact HO.out.after (by repeat' (first | exact Below.refl _ _ | assumption | (with_reducible refine Below.alloc ?_ ?_ _) | (with_reducible refine below_drewN ?_ _) | (with_reducible refine Below.drew ?_) | (with_reducible refine Below.setCell ?_ ?_ _) | go_size)), grown_of_below (by repeat' (first | exact Below.refl _ _ | assumption | (with_reducible refine Below.alloc ?_ ?_ _) | (with_reducible refine below_drewN ?_ _) | (with_reducible refine Below.drew ?_) | (with_reducible refine Below.setCell ?_ ?_ _) | go_size))⟩

set_option maxRecDepth 100000 in
set_option maxHeartbeats 2000000 in
theorem accc_any (base g n cap : Nat) (l : List OEntry) (i : Nat) (by_ : ByteArray) (b0 : Nat) (w : World) (hown : entE.Own w base 32 (.slice (some ⟨g, 0, none⟩) n cap) l) (hn : n = l.length) (hi : i < l.length) (hb0 : Blk w b0 (.cells #[.string by_] 9))  :
    Calls Try.prog 25 #[.pointer (some ⟨g, i * 3, none⟩), .pointer (some ⟨b0, 0, none⟩)] w (Chg w base g n cap l (accE (el l i) by_) i (accX (el l i) by_)) := by
  obtain ⟨x0, x1, x2, f0, f1, f2⟩ := ent_cells hown hn i hi
  have HO := Lib.hid hown; have HN := Lib.hid hn; clear hown hn
  obtain ⟨lb0, y0, -⟩ := hb0.one
  have HB0 := Lib.hid hb0; clear hb0
  obtain ⟨xe, hxe⟩ : ∃ xe, xe = el l i := ⟨_, rfl⟩
  rw [← hxe] at x0 x1 x2 ⊢
  have HXe := Lib.hid hxe; clear hxe
  obtain ⟨xc, xo, xf⟩ := xe
  simp only at x0 x1 x2
  have HC := Lib.hid HXe.out
  go_enter Try.func25, Try.ntmps25
  by_cases h0 : xf = noS
  · obtain ⟨g1, g2, g3, g4⟩ := noS_eq h0
    have HE : Hid (accE ⟨xc, xo, xf⟩ by_ = 11) := Lib.hid (by unfold accE; rw [if_pos (by simpa using h0)])
    clear h0 g4
    go_wp2_with fail
    skip
    go_returns
    exact ⟨ret_int (by rw [HE.out]), by rw [HE.out, if_neg (by decide)]; exact HO.out.after (by repeat' (first | exact Below.refl _ _ | assumption | (with_reducible refine Below.alloc ?_ ?_ _) | (with_reducible refine below_drewN ?_ _) | (with_reducible refine Below.drew ?_) | (with_reducible refine Below.setCell ?_ ?_ _) | go_size)), grown_of_below (by repeat' (first | exact Below.refl _ _ | assumption | (with_reducible refine Below.alloc ?_ ?_ _) | (with_reducible refine below_drewN ?_ _) | (with_reducible refine Below.drew ?_) | (with_reducible refine Below.setCell ?_ ?_ _) | go_size))⟩
  · obtain ⟨g1, g2, g3⟩ := noS_ne h0
    by_cases h1 : xf = by_
    · have q1 := str_same h1
      have q1n : (!(xf.toList == by_.toList)) = false := by rw [q1]; rfl
      have HE : Hid (accE ⟨xc, xo, xf⟩ by_ = 0) := Lib.hid (by unfold accE; rw [if_neg (by simpa using h0), if_neg (by simpa using h1)])
      have H1 := Lib.hid h1; clear h1
      go_wp2_with fail
      go_quiet (fail)
      go_wp2_with fail
      go_returns
      have hst := (HO.out.after (below_drewN (Below.refl _ _) nq)).set HN.out i 1 ⟨xc, by_, xf⟩ (.string by_) hi (by decide) (by rw [← HXe.out]; rfl)
      have hst2 := hst.1.set (by rw [List.length_set]; exact HN.out) i 2 (accX ⟨xc, xo, xf⟩ by_) (.string noS) (by rw [List.length_set]; exact hi) (by decide) (by rw [el_set_eq hi]; rfl)
      rw [List.set_set] at hst2
      exact ⟨ret_int (by rw [HE.out]), by rw [HE.out, if_pos rfl]; exact hst2.1, grownBy_two (grown_of_below (below_drewN (Below.refl _ _) nq)) (grownBy_two hst.2 hst2.2)⟩
    · have q1 := str_diff h1
      have q1n : (!(xf.toList == by_.toList)) = true := by rw [q1]; rfl
      have HE : Hid (accE ⟨xc, xo, xf⟩ by_ = 16) := Lib.hid (by unfold accE; rw [if_neg (by simpa using h0), if_pos (by simpa using h1)])
      go_wp2_with fail
      go_quiet (fail)
      go_wp2_with fail
      go_returns
      exact ⟨ret_int (by rw [HE.out]), by rw [HE.out, if_neg (by decide)]; exact HO.out.after (by repeat' (first | exact Below.refl _ _ | assumption | (with_reducible refine Below.alloc ?_ ?_ _) | (with_reducible refine below_drewN ?_ _) | (with_reducible refine Below.drew ?_) | (with_reducible refine Below.setCell ?_ ?_ _) | go_size)), grown_of_below (by repeat' (first | exact Below.refl _ _ | assumption | (with_reducible refine Below.alloc ?_ ?_ _) | (with_reducible refine below_drewN ?_ _) | (with_reducible refine Below.drew ?_) | (with_reducible refine Below.setCell ?_ ?_ _) | go_size))⟩

set_option maxRecDepth 100000 in
set_option maxHeartbeats 2000000 in
theorem canc_any (base g n cap : Nat) (l : List OEntry) (i : Nat) (by_ : ByteArray) (b0 : Nat) (w : World) (hown : entE.Own w base 32 (.slice (some ⟨g, 0, none⟩) n cap) l) (hn : n = l.length) (hi : i < l.length) (hb0 : Blk w b0 (.cells #[.string by_] 9))  :
    Calls Try.prog 26 #[.pointer (some ⟨g, i * 3, none⟩), .pointer (some ⟨b0, 0, none⟩)] w (Chg w base g n cap l (canE (el l i) by_) i (canX (el l i))) := by
  obtain ⟨x0, x1, x2, f0, f1, f2⟩ := ent_cells hown hn i hi
  have HO := Lib.hid hown; have HN := Lib.hid hn; clear hown hn
  obtain ⟨lb0, y0, -⟩ := hb0.one
  have HB0 := Lib.hid hb0; clear hb0
  obtain ⟨xe, hxe⟩ : ∃ xe, xe = el l i := ⟨_, rfl⟩
  rw [← hxe] at x0 x1 x2 ⊢
  have HXe := Lib.hid hxe; clear hxe
  obtain ⟨xc, xo, xf⟩ := xe
  simp only at x0 x1 x2
  have HC := Lib.hid HXe.out
  go_enter Try.func26, Try.ntmps26
  by_cases h0 : xf = noS
  · obtain ⟨g1, g2, g3, g4⟩ := noS_eq h0
    have HE : Hid (canE ⟨xc, xo, xf⟩ by_ = 11) := Lib.hid (by unfold canE; rw [if_pos (by simpa using h0)])
    clear h0 g4
    go_wp2_with fail
    skip
    go_returns
    exact ⟨ret_int (by rw [HE.out]), by rw [HE.out, if_neg (by decide)]; exact HO.out.after (by repeat' (first | exact Below.refl _ _ | assumption | (with_reducible refine Below.alloc ?_ ?_ _) | (with_reducible refine below_drewN ?_ _) | (with_reducible refine Below.drew ?_) | (with_reducible refine Below.setCell ?_ ?_ _) | go_size)), grown_of_below (by repeat' (first | exact Below.refl _ _ | assumption | (with_reducible refine Below.alloc ?_ ?_ _) | (with_reducible refine below_drewN ?_ _) | (with_reducible refine Below.drew ?_) | (with_reducible refine Below.setCell ?_ ?_ _) | go_size))⟩
  · obtain ⟨g1, g2, g3⟩ := noS_ne h0
    by_cases h1 : xf = by_
    · have q1 := str_same h1
      have q1n : (!(xf.toList == by_.toList)) = false := by rw [q1]; rfl
      have HE : Hid (canE ⟨xc, xo, xf⟩ by_ = 0) := Lib.hid (by unfold canE; rw [if_neg (by simpa using h0), if_neg (by simp [h1])])
      have H1 := Lib.hid h1; clear h1
      go_wp2_with fail
      go_quiet (fail)
      go_wp2_with fail
      go_returns
      have hst := (HO.out.after (below_drewN (Below.refl _ _) nq)).set HN.out i 2 (canX ⟨xc, xo, xf⟩) (.string noS) hi (by decide) (by rw [← HXe.out]; rfl)
      exact ⟨ret_int (by rw [HE.out]), by rw [HE.out, if_pos rfl]; exact hst.1, grownBy_two (grown_of_below (below_drewN (Below.refl _ _) nq)) hst.2⟩
    · have q1 := str_diff h1
      have q1n : (!(xf.toList == by_.toList)) = true := by rw [q1]; rfl
      by_cases h2 : xo = by_
      · have q2 := str_same h2
        have q2n : (!(xo.toList == by_.toList)) = false := by rw [q2]; rfl
        have HE : Hid (canE ⟨xc, xo, xf⟩ by_ = 0) := Lib.hid (by unfold canE; rw [if_neg (by simpa using h0), if_neg (by simp [h2])])
        have H2 := Lib.hid h2; clear h2
        go_wp2_with fail
        go_quiet (fail)
        go_wp2_with fail
        go_returns
        have hst := (HO.out.after (below_drewN (Below.refl _ _) nq)).set HN.out i 2 (canX ⟨xc, xo, xf⟩) (.string noS) hi (by decide) (by rw [← HXe.out]; rfl)
        exact ⟨ret_int (by rw [HE.out]), by rw [HE.out, if_pos rfl]; exact hst.1, grownBy_two (grown_of_below (below_drewN (Below.refl _ _) nq)) hst.2⟩
      · have q2 := str_diff h2
        have q2n : (!(xo.toList == by_.toList)) = true := by rw [q2]; rfl
        have HE : Hid (canE ⟨xc, xo, xf⟩ by_ = 16) := Lib.hid (by unfold canE; rw [if_neg (by simpa using h0), if_pos ⟨by simpa using h1, by simpa using h2⟩])
        go_wp2_with fail
        go_quiet (fail)
        go_wp2_with fail
        go_returns
        exact ⟨ret_int (by rw [HE.out]), by rw [HE.out, if_neg (by decide)]; exact HO.out.after (by repeat' (first | exact Below.refl _ _ | assumption | (with_reducible refine Below.alloc ?_ ?_ _) | (with_reducible refine below_drewN ?_ _) | (with_reducible refine Below.drew ?_) | (with_reducible refine Below.setCell ?_ ?_ _) | go_size)), grown_of_below (by repeat' (first | exact Below.refl _ _ | assumption | (with_reducible refine Below.alloc ?_ ?_ _) | (with_reducible refine below_drewN ?_ _) | (with_reducible refine Below.drew ?_) | (with_reducible refine Below.setCell ?_ ?_ _) | go_size))⟩

set_option maxRecDepth 100000 in
set_option maxHeartbeats 2000000 in
theorem ofrc_any (base g n cap : Nat) (l : List OEntry) (i : Nat) (by_ to : ByteArray) (b0 : Nat) (b1 : Nat) (w : World) (hown : entE.Own w base 32 (.slice (some ⟨g, 0, none⟩) n cap) l) (hn : n = l.length) (hi : i < l.length) (hb0 : Blk w b0 (.cells #[.string by_] 9)) (hb1 : Blk w b1 (.cells #[.string to] 9)) (hto : to.size ≤ maxLen) :
    Calls Try.prog 23 #[.pointer (some ⟨g, i * 3, none⟩), .pointer (some ⟨b0, 0, none⟩), .pointer (some ⟨b1, 0, none⟩)] w (Chg w base g n cap l (ofrE (el l i) by_ to) i (ofrX (el l i) to)) := by
  obtain ⟨x0, x1, x2, f0, f1, f2⟩ := ent_cells hown hn i hi
  have HO := Lib.hid hown; have HN := Lib.hid hn; clear hown hn
  obtain ⟨lb0, y0, -⟩ := hb0.one
  have HB0 := Lib.hid hb0; clear hb0
  obtain ⟨lb1, y1, -⟩ := hb1.one
  have HB1 := Lib.hid hb1; clear hb1
  obtain ⟨xe, hxe⟩ : ∃ xe, xe = el l i := ⟨_, rfl⟩
  rw [← hxe] at x0 x1 x2 ⊢
  have HXe := Lib.hid hxe; clear hxe
  obtain ⟨xc, xo, xf⟩ := xe
  simp only at x0 x1 x2
  have HC := Lib.hid HXe.out
  go_enter Try.func23, Try.ntmps23
  by_cases h1 : xo = by_
  · have q1 := str_same h1
    have q1n : (!(xo.toList == by_.toList)) = false := by rw [q1]; rfl
    by_cases h0 : xf = noS
    · obtain ⟨g1, g2, g3, g4⟩ := noS_eq h0
      have HE : Hid (ofrE ⟨xc, xo, xf⟩ by_ to = if nameB to = false then 3 else if to = by_ then 1 else 0) := Lib.hid (by unfold ofrE; rw [if_neg (by simpa using h1), if_neg (by simpa using h0)])
      have H1 := Lib.hid h1; have H0 := Lib.hid h0; clear h1 h0 g4
      go_wp2_with fail
      go_quiet (fail)
      go_wp2_with fail
      refine (oname_any to _ hto).mono ?_
      rintro e w2 ⟨rfl, hb⟩
      have hS : Below w.heap.size w w2 := Below.step (by repeat' (first | exact Below.refl _ _ | assumption | (with_reducible refine Below.alloc ?_ ?_ _) | (with_reducible refine below_drewN ?_ _) | (with_reducible refine Below.drew ?_) | (with_reducible refine Below.setCell ?_ ?_ _) | go_size)) hb (by go_size)
      have HO2 := Lib.hid (HO.out.after hS)
      replace HB0 := Lib.hid (HB0.out.after hS)
      replace HB1 := Lib.hid (HB1.out.after hS)
      clear hb x0 x1 x2 f0 f1 f2 y0 y1 lb0 lb1
      obtain ⟨x0, x1, x2, f0, f1, f2⟩ := ent_cells HO2.out HN.out i hi
      rw [← HXe.out] at x0 x1 x2
      simp only at x0 x1 x2
      obtain ⟨lb0, y0, -⟩ := HB0.out.one
      obtain ⟨lb1, y1, -⟩ := HB1.out.one
      cases hn2 : nameB to with
      | false =>
        have HE2 : Hid (ofrE ⟨xc, xo, xf⟩ by_ to = 3) := Lib.hid (by rw [HE.out, hn2]; rfl)
        clear hn2
        go_wp2_with fail
        go_returns
        exact ⟨ret_int (by rw [HE2.out]), by rw [HE2.out, if_neg (by decide)]; exact HO2.out, grown_of_below hS⟩
      | true =>
        by_cases h5 : to = by_
        · have q5 := str_same h5
          have HE2 : Hid (ofrE ⟨xc, xo, xf⟩ by_ to = 1) := Lib.hid (by rw [HE.out, hn2, if_neg (by decide), if_pos h5])
          have H5 := Lib.hid h5; clear hn2 h5
          go_wp2_with fail
          go_returns
          exact ⟨ret_int (by rw [HE2.out]), by rw [HE2.out, if_neg (by decide)]; exact HO2.out, grown_of_below hS⟩
        · have q5 := str_diff h5
          have HE2 : Hid (ofrE ⟨xc, xo, xf⟩ by_ to = 0) := Lib.hid (by rw [HE.out, hn2, if_neg (by decide), if_neg h5])
          have H5 := Lib.hid h5; clear hn2 h5
          go_wp2_with fail
          go_returns
          have hst := HO2.out.set HN.out i 2 (ofrX ⟨xc, xo, xf⟩ to) (.string to) hi (by decide) (by rw [← HXe.out]; rfl)
          exact ⟨ret_int (by rw [HE2.out]), by rw [HE2.out, if_pos rfl]; exact hst.1, grownBy_two (grown_of_below hS) hst.2⟩
    · obtain ⟨g1, g2, g3⟩ := noS_ne h0
      have HE : Hid (ofrE ⟨xc, xo, xf⟩ by_ to = 11) := Lib.hid (by unfold ofrE; rw [if_neg (by simpa using h1), if_pos (by simpa using h0)])
      have H1 := Lib.hid h1; clear h1
      go_wp2_with fail
      go_quiet (fail)
      go_wp2_with fail
      go_returns
      exact ⟨ret_int (by rw [HE.out]), by rw [HE.out, if_neg (by decide)]; exact HO.out.after (by repeat' (first | exact Below.refl _ _ | assumption | (with_reducible refine Below.alloc ?_ ?_ _) | (with_reducible refine below_drewN ?_ _) | (with_reducible refine Below.drew ?_) | (with_reducible refine Below.setCell ?_ ?_ _) | go_size)), grown_of_below (by repeat' (first | exact Below.refl _ _ | assumption | (with_reducible refine Below.alloc ?_ ?_ _) | (with_reducible refine below_drewN ?_ _) | (with_reducible refine Below.drew ?_) | (with_reducible refine Below.setCell ?_ ?_ _) | go_size))⟩
  · have q1 := str_diff h1
    have q1n : (!(xo.toList == by_.toList)) = true := by rw [q1]; rfl
    have HE : Hid (ofrE ⟨xc, xo, xf⟩ by_ to = 16) := Lib.hid (by unfold ofrE; rw [if_pos (by simpa using h1)])
    go_wp2_with fail
    go_quiet (fail)
    go_wp2_with fail
    go_returns
    exact ⟨ret_int (by rw [HE.out]), by rw [HE.out, if_neg (by decide)]; exact HO.out.after (by repeat' (first | exact Below.refl _ _ | assumption | (with_reducible refine Below.alloc ?_ ?_ _) | (with_reducible refine below_drewN ?_ _) | (with_reducible refine Below.drew ?_) | (with_reducible refine Below.setCell ?_ ?_ _) | go_size)), grown_of_below (by repeat' (first | exact Below.refl _ _ | assumption | (with_reducible refine Below.alloc ?_ ?_ _) | (with_reducible refine below_drewN ?_ _) | (with_reducible refine Below.drew ?_) | (with_reducible refine Below.setCell ?_ ?_ _) | go_size))⟩

end Go.Proofs.Ytekjoddmohjpbaa
