/- What owner.Move returns. -/
import Derived.Test.YtekjoddmohjpbaaOwner7
set_option linter.unusedVariables false
set_option linter.unusedSimpArgs false
namespace Go.Proofs.Ytekjoddmohjpbaa
open Go.RowKit
attribute [local go_sem ↓] Go.wp_at_zero Go.wp_at_succ

def mvO (fr to : ByteArray) (x : OEntry) : ByteArray := if x.own = fr then to else x.own
def mvF (fr to : ByteArray) (x : OEntry) : ByteArray := if x.off = fr then to else x.off
def mvX (fr to : ByteArray) (x : OEntry) : OEntry := ⟨x.call, mvO fr to x, if mvF fr to x = mvO fr to x then noS else mvF fr to x⟩
def mvT (fr to : ByteArray) (l : List OEntry) (k : Nat) : List OEntry := (l.take k).map (mvX fr to) ++ l.drop k
theorem mvT_zero (fr to : ByteArray) (l : List OEntry) : mvT fr to l 0 = l := by simp [mvT]
theorem mvT_len (fr to : ByteArray) (l : List OEntry) (k : Nat) : (mvT fr to l k).length = l.length := by simp [mvT]; omega
theorem mvT_el {fr to : ByteArray} {l : List OEntry} {k : Nat} (hk : k < l.length) : el (mvT fr to l k) k = el l k := by
  refine el_of ?_
  unfold mvT
  rw [List.getElem?_append_right (by simp; omega)]
  simp [Nat.min_eq_left (Nat.le_of_lt hk)]
  exact el_get hk
theorem mvT_succ {fr to : ByteArray} {l : List OEntry} {k : Nat} (hk : k < l.length) : mvT fr to l (k + 1) = (mvT fr to l k).set k (mvX fr to (el l k)) := by
  unfold mvT
  rw [List.set_append_right _ _ (by simp; omega), List.take_add_one, el_get hk]
  simp [Nat.min_eq_left (Nat.le_of_lt hk)]
  rw [List.drop_eq_getElem_cons hk]
  rfl
theorem set_el {l : List OEntry} {k : Nat} : l.set k (el l k) = l := by
  apply List.ext_getElem?
  intro i
  rw [List.getElem?_set]
  split
  · rename_i h
    subst h
    split
    · rename_i h; rw [el_get h]
    · rename_i h; rw [List.getElem?_eq_none (by omega)]
  · rfl
def mvE (fr to : ByteArray) (l : List OEntry) : Int := if ochk l ≠ 0 then ochk l else if (nameB fr && nameB to) = true then 0 else 3
def mvL (fr to : ByteArray) (l : List OEntry) : List OEntry := if mvE fr to l ≠ 0 then [] else l.map (mvX fr to)
theorem mvT_all (fr to : ByteArray) (l : List OEntry) : mvT fr to l l.length = l.map (mvX fr to) := by simp [mvT]
set_option maxRecDepth 100000 in
set_option maxHeartbeats 4000000 in
theorem mv_any (a : Option Addr) (c : Nat) (l : List OEntry) (fr to : ByteArray) (w : World) (hs : entE.Slc w a c l) (hok : EntsOk l) (hf : fr.size ≤ maxLen) (ht : to.size ≤ maxLen) :
    Calls Try.prog 15 #[.slice a l.length c, .string fr, .string to] w fun e w' => ∃ v, e = .returned (.tuple #[v, .int .i64 (mvE fr to l)]) ∧ entE.Own w' w.heap.size 32 v (mvL fr to l) ∧ Below w.heap.size w w' := by
  have hm := hs.max
  unfold maxLen at hm
  have HS := Lib.hid hs; have HOk := Lib.hid hok; clear hs hok
  generalize hr : mvE fr to l = r
  have HR := Lib.hid hr; clear hr
  generalize hrl : mvL fr to l = rl
  have HRL := Lib.hid hrl; clear hrl
  go_enter Try.func15, Try.ntmps15
  go_wp2_with fail
  refine (ocheck_any a c l _ HS.out HOk.out).mono ?_
  rintro e w1 ⟨rfl, hb⟩
  have hB := hb; clear hb
  have hz := hB.size
  generalize hk : ochk l = k
  by_cases h0 : k = 0
  · subst h0
    have HE : Hid (r = if (nameB fr && nameB to) = true then 0 else 3) := Lib.hid (by rw [← HR.out]; unfold mvE; rw [hk]; rfl)
    have HL : Hid (rl = if r ≠ 0 then [] else l.map (mvX fr to)) := Lib.hid (by rw [← HRL.out, ← HR.out]; rfl)
    have hle : l.length ≤ 24 := by
      have := hk
      unfold ochk at this
      split at this
      · cases this
      · omega
    clear hk
    go_wp2_with fail
    refine (oname_any fr _ hf).mono ?_
    rintro e w2 ⟨rfl, hb⟩
    have hB2 := hB.trans (hb.mono hz)
    have hz2 := hB2.size
    clear hb
    cases hn1 : nameB fr with
    | false =>
      have HE2 : Hid (r = 3) := Lib.hid (by rw [HE.out, hn1]; rfl)
      clear hn1
      go_wp2_with fail
      go_returns
      exact ⟨_, ret_eq (by rw [HE2.out]; rfl), by rw [HL.out, HE2.out]; exact Enc.Own.nil _ _ _ _, hB2⟩
    | true =>
    go_wp2_with fail
    refine (oname_any to _ ht).mono ?_
    rintro e w3 ⟨rfl, hb⟩
    have hB3 := hB2.trans (hb.mono hz2)
    have hz3 := hB3.size
    clear hb
    cases hn2 : nameB to with
    | false =>
      have HE2 : Hid (r = 3) := Lib.hid (by rw [HE.out, hn1, hn2]; rfl)
      clear hn1 hn2
      go_wp2_with fail
      go_returns
      exact ⟨_, ret_eq (by rw [HE2.out]; rfl), by rw [HL.out, HE2.out]; exact Enc.Own.nil _ _ _ _, hB3⟩
    | true =>
    have HE2 : Hid (r = 0) := Lib.hid (by rw [HE.out, hn1, hn2]; rfl)
    have HL2 : Hid (rl = l.map (mvX fr to)) := Lib.hid (by rw [HL.out, HE2.out]; rfl)
    clear hn1 hn2
    go_wp2_with fail
    refine (cloneL_ent a c l _ (HS.out.after hB3) (by omega)).mono ?_
    rintro e w4 ⟨v, rfl, hown, hb, -⟩
    have hB4 := hB3.trans (hb.mono hz3)
    have hz4 := hB4.size
    clear hb
    have hown := hown.base hz3
    rcases Nat.eq_zero_or_pos l.length with h00 | hpos
    · obtain rfl := List.eq_nil_of_length_eq_zero h00
      obtain ⟨a2, c2, rfl, -⟩ := hown.slc
      have HO := Lib.hid hown; clear hown
      simp only [List.length_nil] at *
      go_wp2_with fail
      go_loopw [29] (fun i wr => i = .int .i64 0 ∧ wr = w4) (fun _ _ => 0)
      case atStart => exact ⟨rfl, rfl⟩
      case round =>
        obtain ⟨rfl, rfl⟩ := hrel
        go_wp2_with fail
        go_returns
        exact ⟨_, ret_eq (by rw [HE2.out]; rfl), by rw [HL2.out]; exact HO.out, hB4⟩
    obtain ⟨g, cap, rfl, hg, hgl⟩ := own_some hown hpos
    have HO0 := Lib.hid hown; clear hown
    go_wp2_with fail
    go_loopw [29] (fun i wr => ∃ j : Nat, j ≤ l.length ∧ i = .int .i64 j ∧ Hid (entE.Own wr w.heap.size 32 (.slice (some ⟨g, 0, none⟩) l.length cap) (mvT fr to l j)) ∧ Below w.heap.size w wr) (fun i _ => l.length - (intOf i).toNat)
    case atStart => exact ⟨0, by omega, rfl, Lib.hid (by rw [mvT_zero]; exact HO0.out), hB4⟩
    case round =>
      obtain ⟨j, hj, rfl, HO, hBr⟩ := hrel
      have hzr := hBr.size
      by_cases hlt : j < l.length
      · have HLn := Lib.hid (mvT_len fr to l j).symm
        have hjl : j < (mvT fr to l j).length := by rw [mvT_len]; exact hlt
        have HLe := Lib.hid (mvT_el (fr := fr) (to := to) hlt)
        obtain ⟨x0, x1, x2, f0, f1, f2⟩ := ent_cells HO.out HLn.out j hjl
        rw [HLe.out] at x0 x1 x2
        have hi0 : (0 : Int) ≤ (j : Int) := by omega
        have hi1 : (j : Int) < (l.length : Int) := by omega
        generalize hxe : el l j = xe at x0 x1 x2 HLe
        have HXe := Lib.hid hxe; clear hxe
        obtain ⟨xc, xo, xf⟩ := xe
        simp only at x0 x1 x2
        by_cases p1 : xo = fr
        · have q1 := str_same p1
          have P1 := Lib.hid p1; clear p1
          by_cases p2 : xf = fr
          · have q2 := str_same p2
            have P2 := Lib.hid p2; clear p2
            go_wp2_with fail
            have s1 := HO.out.set HLn.out j 1 ⟨xc, to, xf⟩ (.string to) hjl (by decide) (by rw [HLe.out]; rfl)
            have s2 := s1.1.set (by rw [List.length_set]; exact HLn.out) j 2 ⟨xc, to, to⟩ (.string to) (by rw [List.length_set]; exact hjl) (by decide) (by rw [el_set_eq hjl]; rfl)
            rw [List.set_set] at s2
            have HW := Lib.hid s2.1
            have hgrW := grownBy_two s1.2 s2.2
            simp only [show entE.size = 3 from rfl] at HW hgrW
            generalize ((wr.setCell ⟨g, j * 3 + 1, none⟩ (.string to)).setCell ⟨g, j * 3 + 2, none⟩ (.string to)) = W at HW hgrW ⊢
            have hBW := Below.grown hBr hgrW hzr (fun k hk => by obtain rfl := Option.some.inj hk; omega)
            have hzW := hBW.size
            obtain ⟨y0, y1, y2, k0, k1, k2⟩ := ent_cells HW.out (by rw [List.length_set]; exact HLn.out) j (by rw [List.length_set]; exact hjl)
            rw [el_set_eq hjl] at y0 y1 y2
            simp only at y0 y1 y2
            by_cases p3 : to = to
            · have q3 := str_same p3
              have HX : Hid (mvX fr to ⟨xc, xo, xf⟩ = ⟨xc, to, noS⟩) := Lib.hid (by unfold mvX mvO mvF; simp only [if_pos P1.out, if_pos P2.out]; first | rw [if_pos p3] | simp)
              have P3 := Lib.hid p3; clear p3
              go_quiet (fail)
              go_wp2_with fail
              have hst := (HW.out.after (below_drewN (Below.refl _ _) nq)).set (by rw [List.length_set]; exact HLn.out) j 2 ⟨xc, to, noS⟩ (.string noS) (by rw [List.length_set]; exact hjl) (by decide) (by rw [el_set_eq hjl]; rfl)
              rw [List.set_set] at hst
              exact ⟨⟨j + 1, hlt, rfl, Lib.hid (by rw [mvT_succ hlt, HXe.out, HX.out]; exact hst.1), Below.grown (below_drewN hBW nq) hst.2 hzW (fun k hk => by obtain rfl := Option.some.inj hk; omega)⟩, by simp [intOf]; omega⟩
            · exact absurd rfl p3
          · have q2 := str_diff p2
            have P2 := Lib.hid p2; clear p2
            go_wp2_with fail
            have s1 := HO.out.set HLn.out j 1 ⟨xc, to, xf⟩ (.string to) hjl (by decide) (by rw [HLe.out]; rfl)
            have HW := Lib.hid s1.1
            have hgrW := s1.2
            simp only [show entE.size = 3 from rfl] at HW hgrW
            generalize (wr.setCell ⟨g, j * 3 + 1, none⟩ (.string to)) = W at HW hgrW ⊢
            have hBW := Below.grown hBr hgrW hzr (fun k hk => by obtain rfl := Option.some.inj hk; omega)
            have hzW := hBW.size
            obtain ⟨y0, y1, y2, k0, k1, k2⟩ := ent_cells HW.out (by rw [List.length_set]; exact HLn.out) j (by rw [List.length_set]; exact hjl)
            rw [el_set_eq hjl] at y0 y1 y2
            simp only at y0 y1 y2
            by_cases p3 : xf = to
            · have q3 := str_same p3
              have HX : Hid (mvX fr to ⟨xc, xo, xf⟩ = ⟨xc, to, noS⟩) := Lib.hid (by unfold mvX mvO mvF; simp only [if_pos P1.out, if_neg P2.out]; first | rw [if_pos p3] | simp)
              have P3 := Lib.hid p3; clear p3
              go_quiet (fail)
              go_wp2_with fail
              have hst := (HW.out.after (below_drewN (Below.refl _ _) nq)).set (by rw [List.length_set]; exact HLn.out) j 2 ⟨xc, to, noS⟩ (.string noS) (by rw [List.length_set]; exact hjl) (by decide) (by rw [el_set_eq hjl]; rfl)
              rw [List.set_set] at hst
              exact ⟨⟨j + 1, hlt, rfl, Lib.hid (by rw [mvT_succ hlt, HXe.out, HX.out]; exact hst.1), Below.grown (below_drewN hBW nq) hst.2 hzW (fun k hk => by obtain rfl := Option.some.inj hk; omega)⟩, by simp [intOf]; omega⟩
            · have q3 := str_diff p3
              have HX : Hid (mvX fr to ⟨xc, xo, xf⟩ = ⟨xc, to, xf⟩) := Lib.hid (by unfold mvX mvO mvF; simp only [if_pos P1.out, if_neg P2.out]; rw [if_neg p3])
              have P3 := Lib.hid p3; clear p3
              go_quiet (fail)
              go_wp2_with fail
              exact ⟨⟨j + 1, hlt, rfl, Lib.hid (by rw [mvT_succ hlt, HXe.out, HX.out]; exact HW.out.after (below_drewN (Below.refl _ _) nq)), below_drewN hBW nq⟩, by simp [intOf]; omega⟩

        · have q1 := str_diff p1
          have P1 := Lib.hid p1; clear p1
          by_cases p2 : xf = fr
          · have q2 := str_same p2
            have P2 := Lib.hid p2; clear p2
            go_wp2_with fail
            have s2 := HO.out.set HLn.out j 2 ⟨xc, xo, to⟩ (.string to) hjl (by decide) (by rw [HLe.out]; rfl)
            have HW := Lib.hid s2.1
            have hgrW := s2.2
            simp only [show entE.size = 3 from rfl] at HW hgrW
            generalize (wr.setCell ⟨g, j * 3 + 2, none⟩ (.string to)) = W at HW hgrW ⊢
            have hBW := Below.grown hBr hgrW hzr (fun k hk => by obtain rfl := Option.some.inj hk; omega)
            have hzW := hBW.size
            obtain ⟨y0, y1, y2, k0, k1, k2⟩ := ent_cells HW.out (by rw [List.length_set]; exact HLn.out) j (by rw [List.length_set]; exact hjl)
            rw [el_set_eq hjl] at y0 y1 y2
            simp only at y0 y1 y2
            by_cases p3 : to = xo
            · have q3 := str_same p3
              have HX : Hid (mvX fr to ⟨xc, xo, xf⟩ = ⟨xc, xo, noS⟩) := Lib.hid (by unfold mvX mvO mvF; simp only [if_neg P1.out, if_pos P2.out]; first | rw [if_pos p3] | simp)
              have P3 := Lib.hid p3; clear p3
              go_quiet (fail)
              go_wp2_with fail
              have hst := (HW.out.after (below_drewN (Below.refl _ _) nq)).set (by rw [List.length_set]; exact HLn.out) j 2 ⟨xc, xo, noS⟩ (.string noS) (by rw [List.length_set]; exact hjl) (by decide) (by rw [el_set_eq hjl]; rfl)
              rw [List.set_set] at hst
              exact ⟨⟨j + 1, hlt, rfl, Lib.hid (by rw [mvT_succ hlt, HXe.out, HX.out]; exact hst.1), Below.grown (below_drewN hBW nq) hst.2 hzW (fun k hk => by obtain rfl := Option.some.inj hk; omega)⟩, by simp [intOf]; omega⟩
            · have q3 := str_diff p3
              have HX : Hid (mvX fr to ⟨xc, xo, xf⟩ = ⟨xc, xo, to⟩) := Lib.hid (by unfold mvX mvO mvF; simp only [if_neg P1.out, if_pos P2.out]; rw [if_neg p3])
              have P3 := Lib.hid p3; clear p3
              go_quiet (fail)
              go_wp2_with fail
              exact ⟨⟨j + 1, hlt, rfl, Lib.hid (by rw [mvT_succ hlt, HXe.out, HX.out]; exact HW.out.after (below_drewN (Below.refl _ _) nq)), below_drewN hBW nq⟩, by simp [intOf]; omega⟩
          · have q2 := str_diff p2
            have P2 := Lib.hid p2; clear p2
            go_wp2_with fail
            have HW : Hid (entE.Own wr w.heap.size 32 (.slice (some ⟨g, 0, none⟩) l.length cap) ((mvT fr to l j).set j ⟨xc, xo, xf⟩)) := Lib.hid (by rw [← HLe.out, set_el]; exact HO.out)
            have hgrW : wr.grownBy wr (some g) := grown_of_below (Below.refl _ _)
            have hBW := Below.grown hBr hgrW hzr (fun k hk => by obtain rfl := Option.some.inj hk; omega)
            have hzW := hBW.size
            obtain ⟨y0, y1, y2, k0, k1, k2⟩ := ent_cells HW.out (by rw [List.length_set]; exact HLn.out) j (by rw [List.length_set]; exact hjl)
            rw [el_set_eq hjl] at y0 y1 y2
            simp only at y0 y1 y2
            by_cases p3 : xf = xo
            · have q3 := str_same p3
              have HX : Hid (mvX fr to ⟨xc, xo, xf⟩ = ⟨xc, xo, noS⟩) := Lib.hid (by unfold mvX mvO mvF; simp only [if_neg P1.out, if_neg P2.out]; first | rw [if_pos p3] | simp)
              have P3 := Lib.hid p3; clear p3
              go_quiet (fail)
              go_wp2_with fail
              have hst := (HW.out.after (below_drewN (Below.refl _ _) nq)).set (by rw [List.length_set]; exact HLn.out) j 2 ⟨xc, xo, noS⟩ (.string noS) (by rw [List.length_set]; exact hjl) (by decide) (by rw [el_set_eq hjl]; rfl)
              rw [List.set_set] at hst
              exact ⟨⟨j + 1, hlt, rfl, Lib.hid (by rw [mvT_succ hlt, HXe.out, HX.out]; exact hst.1), Below.grown (below_drewN hBW nq) hst.2 hzW (fun k hk => by obtain rfl := Option.some.inj hk; omega)⟩, by simp [intOf]; omega⟩
            · have q3 := str_diff p3
              have HX : Hid (mvX fr to ⟨xc, xo, xf⟩ = ⟨xc, xo, xf⟩) := Lib.hid (by unfold mvX mvO mvF; simp only [if_neg P1.out, if_neg P2.out]; rw [if_neg p3])
              have P3 := Lib.hid p3; clear p3
              go_quiet (fail)
              go_wp2_with fail
              exact ⟨⟨j + 1, hlt, rfl, Lib.hid (by rw [mvT_succ hlt, HXe.out, HX.out]; exact HW.out.after (below_drewN (Below.refl _ _) nq)), below_drewN hBW nq⟩, by simp [intOf]; omega⟩


      · obtain rfl : j = l.length := by omega
        go_wp2_with fail
        go_returns
        exact ⟨_, ret_eq (by rw [HE2.out]; rfl), by rw [HL2.out, ← mvT_all]; exact HO.out, hBr⟩
  · have hk' : (k != 0) = true := by simpa using h0
    have HE : Hid (r = k) := Lib.hid (by rw [← HR.out]; unfold mvE; rw [hk, if_pos h0])
    have HL : Hid (rl = []) := Lib.hid (by rw [← HRL.out, mvL, HR.out, if_pos (by rw [HE.out]; exact h0)])
    clear h0 hk
    go_wp2_with fail
    go_returns
    exact ⟨_, ret_eq (by rw [HE.out]; rfl), by rw [HL.out]; exact Enc.Own.nil _ _ _ _, hB⟩

end Go.Proofs.Ytekjoddmohjpbaa
