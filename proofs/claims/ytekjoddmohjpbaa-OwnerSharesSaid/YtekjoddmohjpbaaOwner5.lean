/- What owner.changed does, at each closure. -/
import Derived.Test.YtekjoddmohjpbaaOwner4
set_option linter.unusedVariables false
set_option linter.unusedSimpArgs false
namespace Go.Proofs.Ytekjoddmohjpbaa
open Go.RowKit
attribute [local go_sem ↓] Go.wp_at_zero Go.wp_at_succ

def chE (l : List OEntry) (s : ByteArray) (er : OEntry → Int) : Int := if ochk l ≠ 0 then ochk l else if plB l s = true then er (el l (plN l s)) else 8
def chL (l : List OEntry) (s : ByteArray) (er : OEntry → Int) (up : OEntry → OEntry) : List OEntry := if chE l s er ≠ 0 then [] else if (up (el l (plN l s))).call = noS then l.eraseIdx (plN l s) else l.set (plN l s) (up (el l (plN l s)))
theorem own_some {w : World} {base : Nat} {v : Value} {l : List OEntry} (h : entE.Own w base 32 v l) (hl : 0 < l.length) : ∃ g cap, v = .slice (some ⟨g, 0, none⟩) l.length cap ∧ base ≤ g ∧ g < w.heap.size := by
  obtain ⟨h1, h2 | ⟨g, cap, cur, hv, hg, hb, -⟩⟩ := id h
  · omega
  · exact ⟨g, cap, hv, hg, (h.lt g (by rw [hv]; rfl)).2⟩

set_option maxRecDepth 100000 in
set_option maxHeartbeats 2000000 in
theorem changed_end (a : Option Addr) (c : Nat) (l : List OEntry) (s : ByteArray) (cp0 : Addr) (er : OEntry → Int) (up : OEntry → OEntry) (w : World) (hs : entE.Slc w a c l) (hok : EntsOk l)
    (hcall : ∀ W base g cap i, i < l.length → Below w.heap.size w W → entE.Own W base 32 (.slice (some ⟨g, 0, none⟩) l.length cap) l → w.heap.size ≤ g → Calls Try.prog 33 #[.pointer (some ⟨g, i * 3, none⟩), .pointer (some cp0)] W (Chg W base g l.length cap l (er (el l i)) i (up (el l i)))) :
    Calls Try.prog 22 #[.slice a l.length c, .string s, .func (.func 33) #[] #[.pointer (some cp0)]] w fun e w' => ∃ v, e = .returned (.tuple #[v, .int .i64 (chE l s er)]) ∧ entE.Own w' w.heap.size 32 v (chL l s er up) ∧ Below w.heap.size w w' := by
  have hm := hs.max
  unfold maxLen at hm
  have HS := Lib.hid hs; have HOk := Lib.hid hok; have HC := Lib.hid hcall; clear hs hok hcall
  generalize hr : chE l s er = r
  have HR := Lib.hid hr; clear hr
  generalize hrl : chL l s er up = rl
  have HRL := Lib.hid hrl; clear hrl
  go_enter Try.func22, Try.ntmps22
  go_wp2_with fail
  refine (ocheck_any a c l _ HS.out HOk.out).mono ?_
  rintro e w1 ⟨rfl, hb⟩
  have hB := hb; clear hb
  have hz := hB.size
  generalize hk : ochk l = k
  by_cases h0 : k = 0
  · subst h0
    have HK := Lib.hid hk; clear hk
    go_wp2_with fail
    refine (place_any a c l s _ (HS.out.after hB)).mono ?_
    rintro e w2 ⟨rfl, hb⟩
    have hB2 := hB.trans (hb.mono hz)
    have hz2 := hB2.size
    clear hb
    cases hp : plB l s with
    | false =>
      have HE : Hid (r = 8) := Lib.hid (by rw [← HR.out]; unfold chE; rw [HK.out, hp]; rfl)
      clear hp
      go_wp2_with fail
      go_returns
      exact ⟨_, ret_eq (by rw [HE.out]; rfl), by rw [← HRL.out, chL, HR.out, HE.out]; exact Enc.Own.nil _ _ _ _, hB2⟩
    | true =>
      have hi : plN l s < l.length := (of_decide_eq_true hp).1
      have HE : Hid (r = er (el l (plN l s))) := Lib.hid (by rw [← HR.out]; unfold chE; rw [HK.out, hp]; rfl)
      have HL : Hid (rl = if r ≠ 0 then [] else if (up (el l (plN l s))).call = noS then l.eraseIdx (plN l s) else l.set (plN l s) (up (el l (plN l s)))) := Lib.hid (by rw [← HRL.out, ← HR.out]; rfl)
      have hle : l.length ≤ 24 := by
        have := HK.out
        unfold ochk at this
        split at this
        · cases this
        · omega
      clear hp
      generalize plN l s = i at hi HE HL ⊢
      have hi0 : (0 : Int) ≤ (i : Int) := by omega
      have hi1 : (i : Int) < (l.length : Int) := by omega
      go_wp2_with fail
      refine (cloneL_ent a c l _ (HS.out.after hB2) (by omega)).mono ?_
      rintro e w3 ⟨v, rfl, hown, hb, -⟩
      have hB3 := hB2.trans (hb.mono hz2)
      have hz3 := hB3.size
      clear hb
      obtain ⟨g, cap, rfl, hg, hgl⟩ := own_some hown (by omega)
      have HO := Lib.hid (hown.base hz2); clear hown
      go_wp2_with fail
      refine (HC.out _ _ g cap i hi hB3 HO.out (by omega)).mono ?_
      rintro e w4 ⟨rfl, ho4, hgr⟩
      have hB4 := Below.grown hB3 hgr hz3 (fun k hk => by obtain rfl := Option.some.inj hk; omega)
      clear hgr
      rw [← HE.out] at ho4 ⊢
      by_cases h0 : r = 0
      · rw [if_pos h0] at ho4
        subst h0
        obtain ⟨x0, -, -, -, -, -⟩ := ent_cells ho4 (by rw [List.length_set]) i (by rw [List.length_set]; exact hi)
        rw [el_set_eq hi] at x0
        have HO4 := Lib.hid ho4; clear ho4
        by_cases hn : (up (el l i)).call = noS
        · have HV : Hid (rl = l.eraseIdx i) := Lib.hid (by rw [HL.out, if_neg (by decide), if_pos hn])
          obtain ⟨n1, n2, n3, -⟩ := noS_eq hn
          clear hn
          generalize (up (el l i)).call = xc at x0 n1 n2 n3
          go_wp2_with fail
          refine (deleteL_ent g cap i w.heap.size _ _ _ HO4.out (by rw [List.length_set]) (by rw [List.length_set]; exact hi)).mono ?_
          rintro e w5 ⟨rfl, ho5, hgr, -⟩
          have hB5 := Below.grown hB4 hgr hB4.size (fun k hk => by obtain rfl := Option.some.inj hk; omega)
          have HO5 := Lib.hid ho5
          clear hgr ho5
          go_wp2_with fail
          go_returns
          exact ⟨_, ret_eq rfl, by rw [HV.out, ← List.eraseIdx_set_eq]; exact HO5.out, hB5⟩
        · obtain ⟨n1, n2, n3⟩ := noS_ne hn
          have HV : Hid (rl = l.set i (up (el l i))) := Lib.hid (by rw [HL.out, if_neg (by decide), if_neg hn])
          clear hn
          generalize (up (el l i)).call = xc at x0 n1 n2 n3
          go_wp2_with fail
          go_returns
          exact ⟨_, ret_eq rfl, by rw [HV.out]; exact HO4.out, hB4⟩
      · have hk' : (r != 0) = true := by simpa using h0
        have HV : Hid (rl = []) := Lib.hid (by rw [HL.out, if_pos h0])
        clear h0 ho4
        go_wp2_with fail
        go_returns
        exact ⟨_, ret_eq rfl, by rw [HV.out]; exact Enc.Own.nil _ _ _ _, hB4⟩
  · have hk' : (k != 0) = true := by simpa using h0
    have HE : Hid (r = k) := Lib.hid (by rw [← HR.out]; unfold chE; rw [hk, if_pos h0])
    have H0 := Lib.hid h0; clear h0 hk
    go_wp2_with fail
    go_returns
    exact ⟨_, ret_eq (by rw [HE.out]; rfl), by rw [← HRL.out, chL, HR.out, if_pos (by rw [HE.out]; exact H0.out)]; exact Enc.Own.nil _ _ _ _, hB⟩

set_option maxRecDepth 100000 in
set_option maxHeartbeats 2000000 in
theorem changed_acc (a : Option Addr) (c : Nat) (l : List OEntry) (s : ByteArray) (cp0 : Addr) (er : OEntry → Int) (up : OEntry → OEntry) (w : World) (hs : entE.Slc w a c l) (hok : EntsOk l)
    (hcall : ∀ W base g cap i, i < l.length → Below w.heap.size w W → entE.Own W base 32 (.slice (some ⟨g, 0, none⟩) l.length cap) l → w.heap.size ≤ g → Calls Try.prog 25 #[.pointer (some ⟨g, i * 3, none⟩), .pointer (some cp0)] W (Chg W base g l.length cap l (er (el l i)) i (up (el l i)))) :
    Calls Try.prog 22 #[.slice a l.length c, .string s, .func (.func 25) #[] #[.pointer (some cp0)]] w fun e w' => ∃ v, e = .returned (.tuple #[v, .int .i64 (chE l s er)]) ∧ entE.Own w' w.heap.size 32 v (chL l s er up) ∧ Below w.heap.size w w' := by
  have hm := hs.max
  unfold maxLen at hm
  have HS := Lib.hid hs; have HOk := Lib.hid hok; have HC := Lib.hid hcall; clear hs hok hcall
  generalize hr : chE l s er = r
  have HR := Lib.hid hr; clear hr
  generalize hrl : chL l s er up = rl
  have HRL := Lib.hid hrl; clear hrl
  go_enter Try.func22, Try.ntmps22
  go_wp2_with fail
  refine (ocheck_any a c l _ HS.out HOk.out).mono ?_
  rintro e w1 ⟨rfl, hb⟩
  have hB := hb; clear hb
  have hz := hB.size
  generalize hk : ochk l = k
  by_cases h0 : k = 0
  · subst h0
    have HK := Lib.hid hk; clear hk
    go_wp2_with fail
    refine (place_any a c l s _ (HS.out.after hB)).mono ?_
    rintro e w2 ⟨rfl, hb⟩
    have hB2 := hB.trans (hb.mono hz)
    have hz2 := hB2.size
    clear hb
    cases hp : plB l s with
    | false =>
      have HE : Hid (r = 8) := Lib.hid (by rw [← HR.out]; unfold chE; rw [HK.out, hp]; rfl)
      clear hp
      go_wp2_with fail
      go_returns
      exact ⟨_, ret_eq (by rw [HE.out]; rfl), by rw [← HRL.out, chL, HR.out, HE.out]; exact Enc.Own.nil _ _ _ _, hB2⟩
    | true =>
      have hi : plN l s < l.length := (of_decide_eq_true hp).1
      have HE : Hid (r = er (el l (plN l s))) := Lib.hid (by rw [← HR.out]; unfold chE; rw [HK.out, hp]; rfl)
      have HL : Hid (rl = if r ≠ 0 then [] else if (up (el l (plN l s))).call = noS then l.eraseIdx (plN l s) else l.set (plN l s) (up (el l (plN l s)))) := Lib.hid (by rw [← HRL.out, ← HR.out]; rfl)
      have hle : l.length ≤ 24 := by
        have := HK.out
        unfold ochk at this
        split at this
        · cases this
        · omega
      clear hp
      generalize plN l s = i at hi HE HL ⊢
      have hi0 : (0 : Int) ≤ (i : Int) := by omega
      have hi1 : (i : Int) < (l.length : Int) := by omega
      go_wp2_with fail
      refine (cloneL_ent a c l _ (HS.out.after hB2) (by omega)).mono ?_
      rintro e w3 ⟨v, rfl, hown, hb, -⟩
      have hB3 := hB2.trans (hb.mono hz2)
      have hz3 := hB3.size
      clear hb
      obtain ⟨g, cap, rfl, hg, hgl⟩ := own_some hown (by omega)
      have HO := Lib.hid (hown.base hz2); clear hown
      go_wp2_with fail
      refine (HC.out _ _ g cap i hi hB3 HO.out (by omega)).mono ?_
      rintro e w4 ⟨rfl, ho4, hgr⟩
      have hB4 := Below.grown hB3 hgr hz3 (fun k hk => by obtain rfl := Option.some.inj hk; omega)
      clear hgr
      rw [← HE.out] at ho4 ⊢
      by_cases h0 : r = 0
      · rw [if_pos h0] at ho4
        subst h0
        obtain ⟨x0, -, -, -, -, -⟩ := ent_cells ho4 (by rw [List.length_set]) i (by rw [List.length_set]; exact hi)
        rw [el_set_eq hi] at x0
        have HO4 := Lib.hid ho4; clear ho4
        by_cases hn : (up (el l i)).call = noS
        · have HV : Hid (rl = l.eraseIdx i) := Lib.hid (by rw [HL.out, if_neg (by decide), if_pos hn])
          obtain ⟨n1, n2, n3, -⟩ := noS_eq hn
          clear hn
          generalize (up (el l i)).call = xc at x0 n1 n2 n3
          go_wp2_with fail
          refine (deleteL_ent g cap i w.heap.size _ _ _ HO4.out (by rw [List.length_set]) (by rw [List.length_set]; exact hi)).mono ?_
          rintro e w5 ⟨rfl, ho5, hgr, -⟩
          have hB5 := Below.grown hB4 hgr hB4.size (fun k hk => by obtain rfl := Option.some.inj hk; omega)
          have HO5 := Lib.hid ho5
          clear hgr ho5
          go_wp2_with fail
          go_returns
          exact ⟨_, ret_eq rfl, by rw [HV.out, ← List.eraseIdx_set_eq]; exact HO5.out, hB5⟩
        · obtain ⟨n1, n2, n3⟩ := noS_ne hn
          have HV : Hid (rl = l.set i (up (el l i))) := Lib.hid (by rw [HL.out, if_neg (by decide), if_neg hn])
          clear hn
          generalize (up (el l i)).call = xc at x0 n1 n2 n3
          go_wp2_with fail
          go_returns
          exact ⟨_, ret_eq rfl, by rw [HV.out]; exact HO4.out, hB4⟩
      · have hk' : (r != 0) = true := by simpa using h0
        have HV : Hid (rl = []) := Lib.hid (by rw [HL.out, if_pos h0])
        clear h0 ho4
        go_wp2_with fail
        go_returns
        exact ⟨_, ret_eq rfl, by rw [HV.out]; exact Enc.Own.nil _ _ _ _, hB4⟩
  · have hk' : (k != 0) = true := by simpa using h0
    have HE : Hid (r = k) := Lib.hid (by rw [← HR.out]; unfold chE; rw [hk, if_pos h0])
    have H0 := Lib.hid h0; clear h0 hk
    go_wp2_with fail
    go_returns
    exact ⟨_, ret_eq (by rw [HE.out]; rfl), by rw [← HRL.out, chL, HR.out, if_pos (by rw [HE.out]; exact H0.out)]; exact Enc.Own.nil _ _ _ _, hB⟩

set_option maxRecDepth 100000 in
set_option maxHeartbeats 2000000 in
theorem changed_can (a : Option Addr) (c : Nat) (l : List OEntry) (s : ByteArray) (cp0 : Addr) (er : OEntry → Int) (up : OEntry → OEntry) (w : World) (hs : entE.Slc w a c l) (hok : EntsOk l)
    (hcall : ∀ W base g cap i, i < l.length → Below w.heap.size w W → entE.Own W base 32 (.slice (some ⟨g, 0, none⟩) l.length cap) l → w.heap.size ≤ g → Calls Try.prog 26 #[.pointer (some ⟨g, i * 3, none⟩), .pointer (some cp0)] W (Chg W base g l.length cap l (er (el l i)) i (up (el l i)))) :
    Calls Try.prog 22 #[.slice a l.length c, .string s, .func (.func 26) #[] #[.pointer (some cp0)]] w fun e w' => ∃ v, e = .returned (.tuple #[v, .int .i64 (chE l s er)]) ∧ entE.Own w' w.heap.size 32 v (chL l s er up) ∧ Below w.heap.size w w' := by
  have hm := hs.max
  unfold maxLen at hm
  have HS := Lib.hid hs; have HOk := Lib.hid hok; have HC := Lib.hid hcall; clear hs hok hcall
  generalize hr : chE l s er = r
  have HR := Lib.hid hr; clear hr
  generalize hrl : chL l s er up = rl
  have HRL := Lib.hid hrl; clear hrl
  go_enter Try.func22, Try.ntmps22
  go_wp2_with fail
  refine (ocheck_any a c l _ HS.out HOk.out).mono ?_
  rintro e w1 ⟨rfl, hb⟩
  have hB := hb; clear hb
  have hz := hB.size
  generalize hk : ochk l = k
  by_cases h0 : k = 0
  · subst h0
    have HK := Lib.hid hk; clear hk
    go_wp2_with fail
    refine (place_any a c l s _ (HS.out.after hB)).mono ?_
    rintro e w2 ⟨rfl, hb⟩
    have hB2 := hB.trans (hb.mono hz)
    have hz2 := hB2.size
    clear hb
    cases hp : plB l s with
    | false =>
      have HE : Hid (r = 8) := Lib.hid (by rw [← HR.out]; unfold chE; rw [HK.out, hp]; rfl)
      clear hp
      go_wp2_with fail
      go_returns
      exact ⟨_, ret_eq (by rw [HE.out]; rfl), by rw [← HRL.out, chL, HR.out, HE.out]; exact Enc.Own.nil _ _ _ _, hB2⟩
    | true =>
      have hi : plN l s < l.length := (of_decide_eq_true hp).1
      have HE : Hid (r = er (el l (plN l s))) := Lib.hid (by rw [← HR.out]; unfold chE; rw [HK.out, hp]; rfl)
      have HL : Hid (rl = if r ≠ 0 then [] else if (up (el l (plN l s))).call = noS then l.eraseIdx (plN l s) else l.set (plN l s) (up (el l (plN l s)))) := Lib.hid (by rw [← HRL.out, ← HR.out]; rfl)
      have hle : l.length ≤ 24 := by
        have := HK.out
        unfold ochk at this
        split at this
        · cases this
        · omega
      clear hp
      generalize plN l s = i at hi HE HL ⊢
      have hi0 : (0 : Int) ≤ (i : Int) := by omega
      have hi1 : (i : Int) < (l.length : Int) := by omega
      go_wp2_with fail
      refine (cloneL_ent a c l _ (HS.out.after hB2) (by omega)).mono ?_
      rintro e w3 ⟨v, rfl, hown, hb, -⟩
      have hB3 := hB2.trans (hb.mono hz2)
      have hz3 := hB3.size
      clear hb
      obtain ⟨g, cap, rfl, hg, hgl⟩ := own_some hown (by omega)
      have HO := Lib.hid (hown.base hz2); clear hown
      go_wp2_with fail
      refine (HC.out _ _ g cap i hi hB3 HO.out (by omega)).mono ?_
      rintro e w4 ⟨rfl, ho4, hgr⟩
      have hB4 := Below.grown hB3 hgr hz3 (fun k hk => by obtain rfl := Option.some.inj hk; omega)
      clear hgr
      rw [← HE.out] at ho4 ⊢
      by_cases h0 : r = 0
      · rw [if_pos h0] at ho4
        subst h0
        obtain ⟨x0, -, -, -, -, -⟩ := ent_cells ho4 (by rw [List.length_set]) i (by rw [List.length_set]; exact hi)
        rw [el_set_eq hi] at x0
        have HO4 := Lib.hid ho4; clear ho4
        by_cases hn : (up (el l i)).call = noS
        · have HV : Hid (rl = l.eraseIdx i) := Lib.hid (by rw [HL.out, if_neg (by decide), if_pos hn])
          obtain ⟨n1, n2, n3, -⟩ := noS_eq hn
          clear hn
          generalize (up (el l i)).call = xc at x0 n1 n2 n3
          go_wp2_with fail
          refine (deleteL_ent g cap i w.heap.size _ _ _ HO4.out (by rw [List.length_set]) (by rw [List.length_set]; exact hi)).mono ?_
          rintro e w5 ⟨rfl, ho5, hgr, -⟩
          have hB5 := Below.grown hB4 hgr hB4.size (fun k hk => by obtain rfl := Option.some.inj hk; omega)
          have HO5 := Lib.hid ho5
          clear hgr ho5
          go_wp2_with fail
          go_returns
          exact ⟨_, ret_eq rfl, by rw [HV.out, ← List.eraseIdx_set_eq]; exact HO5.out, hB5⟩
        · obtain ⟨n1, n2, n3⟩ := noS_ne hn
          have HV : Hid (rl = l.set i (up (el l i))) := Lib.hid (by rw [HL.out, if_neg (by decide), if_neg hn])
          clear hn
          generalize (up (el l i)).call = xc at x0 n1 n2 n3
          go_wp2_with fail
          go_returns
          exact ⟨_, ret_eq rfl, by rw [HV.out]; exact HO4.out, hB4⟩
      · have hk' : (r != 0) = true := by simpa using h0
        have HV : Hid (rl = []) := Lib.hid (by rw [HL.out, if_pos h0])
        clear h0 ho4
        go_wp2_with fail
        go_returns
        exact ⟨_, ret_eq rfl, by rw [HV.out]; exact Enc.Own.nil _ _ _ _, hB4⟩
  · have hk' : (k != 0) = true := by simpa using h0
    have HE : Hid (r = k) := Lib.hid (by rw [← HR.out]; unfold chE; rw [hk, if_pos h0])
    have H0 := Lib.hid h0; clear h0 hk
    go_wp2_with fail
    go_returns
    exact ⟨_, ret_eq (by rw [HE.out]; rfl), by rw [← HRL.out, chL, HR.out, if_pos (by rw [HE.out]; exact H0.out)]; exact Enc.Own.nil _ _ _ _, hB⟩

set_option maxRecDepth 100000 in
set_option maxHeartbeats 2000000 in
theorem changed_ofr (a : Option Addr) (c : Nat) (l : List OEntry) (s : ByteArray) (cp0 cp1 : Addr) (er : OEntry → Int) (up : OEntry → OEntry) (w : World) (hs : entE.Slc w a c l) (hok : EntsOk l)
    (hcall : ∀ W base g cap i, i < l.length → Below w.heap.size w W → entE.Own W base 32 (.slice (some ⟨g, 0, none⟩) l.length cap) l → w.heap.size ≤ g → Calls Try.prog 23 #[.pointer (some ⟨g, i * 3, none⟩), .pointer (some cp0), .pointer (some cp1)] W (Chg W base g l.length cap l (er (el l i)) i (up (el l i)))) :
    Calls Try.prog 22 #[.slice a l.length c, .string s, .func (.func 23) #[] #[.pointer (some cp0), .pointer (some cp1)]] w fun e w' => ∃ v, e = .returned (.tuple #[v, .int .i64 (chE l s er)]) ∧ entE.Own w' w.heap.size 32 v (chL l s er up) ∧ Below w.heap.size w w' := by
  have hm := hs.max
  unfold maxLen at hm
  have HS := Lib.hid hs; have HOk := Lib.hid hok; have HC := Lib.hid hcall; clear hs hok hcall
  generalize hr : chE l s er = r
  have HR := Lib.hid hr; clear hr
  generalize hrl : chL l s er up = rl
  have HRL := Lib.hid hrl; clear hrl
  go_enter Try.func22, Try.ntmps22
  go_wp2_with fail
  refine (ocheck_any a c l _ HS.out HOk.out).mono ?_
  rintro e w1 ⟨rfl, hb⟩
  have hB := hb; clear hb
  have hz := hB.size
  generalize hk : ochk l = k
  by_cases h0 : k = 0
  · subst h0
    have HK := Lib.hid hk; clear hk
    go_wp2_with fail
    refine (place_any a c l s _ (HS.out.after hB)).mono ?_
    rintro e w2 ⟨rfl, hb⟩
    have hB2 := hB.trans (hb.mono hz)
    have hz2 := hB2.size
    clear hb
    cases hp : plB l s with
    | false =>
      have HE : Hid (r = 8) := Lib.hid (by rw [← HR.out]; unfold chE; rw [HK.out, hp]; rfl)
      clear hp
      go_wp2_with fail
      go_returns
      exact ⟨_, ret_eq (by rw [HE.out]; rfl), by rw [← HRL.out, chL, HR.out, HE.out]; exact Enc.Own.nil _ _ _ _, hB2⟩
    | true =>
      have hi : plN l s < l.length := (of_decide_eq_true hp).1
      have HE : Hid (r = er (el l (plN l s))) := Lib.hid (by rw [← HR.out]; unfold chE; rw [HK.out, hp]; rfl)
      have HL : Hid (rl = if r ≠ 0 then [] else if (up (el l (plN l s))).call = noS then l.eraseIdx (plN l s) else l.set (plN l s) (up (el l (plN l s)))) := Lib.hid (by rw [← HRL.out, ← HR.out]; rfl)
      have hle : l.length ≤ 24 := by
        have := HK.out
        unfold ochk at this
        split at this
        · cases this
        · omega
      clear hp
      generalize plN l s = i at hi HE HL ⊢
      have hi0 : (0 : Int) ≤ (i : Int) := by omega
      have hi1 : (i : Int) < (l.length : Int) := by omega
      go_wp2_with fail
      refine (cloneL_ent a c l _ (HS.out.after hB2) (by omega)).mono ?_
      rintro e w3 ⟨v, rfl, hown, hb, -⟩
      have hB3 := hB2.trans (hb.mono hz2)
      have hz3 := hB3.size
      clear hb
      obtain ⟨g, cap, rfl, hg, hgl⟩ := own_some hown (by omega)
      have HO := Lib.hid (hown.base hz2); clear hown
      go_wp2_with fail
      refine (HC.out _ _ g cap i hi hB3 HO.out (by omega)).mono ?_
      rintro e w4 ⟨rfl, ho4, hgr⟩
      have hB4 := Below.grown hB3 hgr hz3 (fun k hk => by obtain rfl := Option.some.inj hk; omega)
      clear hgr
      rw [← HE.out] at ho4 ⊢
      by_cases h0 : r = 0
      · rw [if_pos h0] at ho4
        subst h0
        obtain ⟨x0, -, -, -, -, -⟩ := ent_cells ho4 (by rw [List.length_set]) i (by rw [List.length_set]; exact hi)
        rw [el_set_eq hi] at x0
        have HO4 := Lib.hid ho4; clear ho4
        by_cases hn : (up (el l i)).call = noS
        · have HV : Hid (rl = l.eraseIdx i) := Lib.hid (by rw [HL.out, if_neg (by decide), if_pos hn])
          obtain ⟨n1, n2, n3, -⟩ := noS_eq hn
          clear hn
          generalize (up (el l i)).call = xc at x0 n1 n2 n3
          go_wp2_with fail
          refine (deleteL_ent g cap i w.heap.size _ _ _ HO4.out (by rw [List.length_set]) (by rw [List.length_set]; exact hi)).mono ?_
          rintro e w5 ⟨rfl, ho5, hgr, -⟩
          have hB5 := Below.grown hB4 hgr hB4.size (fun k hk => by obtain rfl := Option.some.inj hk; omega)
          have HO5 := Lib.hid ho5
          clear hgr ho5
          go_wp2_with fail
          go_returns
          exact ⟨_, ret_eq rfl, by rw [HV.out, ← List.eraseIdx_set_eq]; exact HO5.out, hB5⟩
        · obtain ⟨n1, n2, n3⟩ := noS_ne hn
          have HV : Hid (rl = l.set i (up (el l i))) := Lib.hid (by rw [HL.out, if_neg (by decide), if_neg hn])
          clear hn
          generalize (up (el l i)).call = xc at x0 n1 n2 n3
          go_wp2_with fail
          go_returns
          exact ⟨_, ret_eq rfl, by rw [HV.out]; exact HO4.out, hB4⟩
      · have hk' : (r != 0) = true := by simpa using h0
        have HV : Hid (rl = []) := Lib.hid (by rw [HL.out, if_pos h0])
        clear h0 ho4
        go_wp2_with fail
        go_returns
        exact ⟨_, ret_eq rfl, by rw [HV.out]; exact Enc.Own.nil _ _ _ _, hB4⟩
  · have hk' : (k != 0) = true := by simpa using h0
    have HE : Hid (r = k) := Lib.hid (by rw [← HR.out]; unfold chE; rw [hk, if_pos h0])
    have H0 := Lib.hid h0; clear h0 hk
    go_wp2_with fail
    go_returns
    exact ⟨_, ret_eq (by rw [HE.out]; rfl), by rw [← HRL.out, chL, HR.out, if_pos (by rw [HE.out]; exact H0.out)]; exact Enc.Own.nil _ _ _ _, hB⟩

end Go.Proofs.Ytekjoddmohjpbaa
