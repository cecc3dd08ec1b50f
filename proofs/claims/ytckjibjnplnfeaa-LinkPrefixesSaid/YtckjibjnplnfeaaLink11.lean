/- LinkPrefixes returns true at every input: the walk. -/
import Derived.Test.YtckjibjnplnfeaaLink10
import Derived.Test.YtckjibjnplnfeaaLinkInt
import Derived.Test.YtckjibjnplnfeaaPick
set_option linter.unusedVariables false
set_option linter.unusedSimpArgs false
namespace Go.Proofs.Ytckjibjnplnfeaa
open Go.RowKit
attribute [local go_sem ↓] Go.wp_at_zero Go.wp_at_succ

set_option maxRecDepth 100000 in
set_option maxHeartbeats 8000000 in
theorem prefixes_any (ta : Option Addr) (tc : Nat) (T : List ByteArray) (xa : Option Addr) (xc : Nat) (X : List Int) (w : World) (hT : strE.Slc w ta tc T) (hTok : StrsOk T) (hX : intE.Slc w xa xc X) :
    Calls Try.prog 3 #[.slice ta T.length tc, .slice xa X.length xc] w fun e w' => e = .returned (.bool true) ∧ Below w.heap.size w w' := by
  have HT := Lib.hid hT; have HX := Lib.hid hX; have HTok := Lib.hid hTok
  have hxm := HX.out.max
  have htm := HT.out.max
  unfold maxLen at hxm htm
  clear hT hX hTok
  go_enter Try.func3, Try.ntmps3
  go_wp2_with fail
  refine (lfact_any _).mono ?_
  rintro e w1 ⟨rfl, hb⟩
  have HBt := Lib.hid (Blk.after (Blk.new w (.cells #[.slice ta T.length tc] 22)) hb)
  have hB1 : Below w.heap.size w w1 := Below.step (by repeat' (first | exact Below.refl _ _ | assumption | (with_reducible refine Below.alloc ?_ ?_ _) | (with_reducible refine below_drewN ?_ _) | (with_reducible refine Below.drew ?_) | (with_reducible refine Below.setCell ?_ ?_ _) | go_size)) hb (by go_size)
  have hz1 := hb.size
  simp only [World.size_alloc] at hz1
  clear hb
  obtain ⟨lt1, xt, -⟩ := HBt.out.one
  by_cases hbig : 32 < T.length
  · have hd : decide (32 < T.length) = true := by simpa using hbig
    go_wp2_with fail
    go_returns
    exact ⟨rfl, hB1⟩
  have hd : decide (32 < T.length) = false := by simpa using hbig
  have few : T.length ≤ 32 := by omega
  by_cases hbig2 : 200 < X.length
  · have hd2 : decide (200 < X.length) = true := by simpa using hbig2
    go_wp2_with fail
    go_returns
    exact ⟨rfl, hB1⟩
  have hd2 : decide (200 < X.length) = false := by simpa using hbig2
  have fewX : X.length ≤ 200 := by omega
  clear hbig hbig2
  go_wp2_with fail
  refine (begin_any _).mono ?_
  rintro e w2 ⟨rfl, hb⟩
  replace HBt := Lib.hid (HBt.out.after hb)
  have hB2 : Below w.heap.size w w2 := hB1.trans (hb.mono (by omega))
  have hz2 : w.heap.size + 1 ≤ w2.heap.size := by have := hb.size; omega
  clear hb lt1 xt hB1 hz1
  obtain ⟨lt2, xt, -⟩ := HBt.out.one
  go_wp2_with fail
  go_loopw [36] (fun i wr => ∃ (j : Nat) (sa : Option Addr) (sc : Nat), j ≤ T.length ∧ i = .int .i64 j ∧ Hid (∀ k, k < j → (el T k).size ≤ 120) ∧ Hid (Blk wr w2.heap.size (.cells #[.int .i64 1, .slice sa j sc] 26)) ∧ Hid (strE.Own wr (w2.heap.size + 1) 9 (.slice sa j sc) (T.take j)) ∧ Hid (Blk wr w.heap.size (.cells #[.slice ta T.length tc] 22)) ∧ Below w.heap.size w wr) (fun i _ => T.length - (intOf i).toNat)
  case atStart => exact ⟨0, none, 0, by omega, rfl, Lib.hid (fun k hk => absurd hk (by omega)), Lib.hid (Blk.new _ _), Lib.hid (Enc.Own.nil _ _ _ _), Lib.hid (HBt.out.alloc _), by go_grown⟩
  case round =>
    clear HBt hB2 lt2 xt
    obtain ⟨j, sa, sc, hj, rfl, HSm, HBs, HO, HBt, hB⟩ := hrel
    have hzr := hB.size
    obtain ⟨lbs, s0, s1, fs0, fs1⟩ := HBs.out.two
    by_cases hlt : j < T.length
    · obtain ⟨bb, off, rfl, hbl, e1⟩ := strE_cell (HT.out.row.below hB (Nat.le_refl _)) j hlt
      have hput := put_any 1 sa sc (T.take j) (el T j) wr (by obtain ⟨a9, c9, h9, h10⟩ := HO.out.slc; simp only [Value.slice.injEq] at h9; obtain ⟨rfl, -, rfl⟩ := h9; exact h10) (fun t ht => HTok.out t (List.mem_of_mem_take ht)) (HTok.out _ (el_mem hlt))
      have hl : (T.take j).length = j := by rw [List.length_take]; omega
      rw [hl] at hput
      have hck : lchk 1 (T.take j) = 0 := (lchk_zero _ _).2 ⟨by rw [hl]; omega, by omega, by rw [hl]; omega, fun t ht => by
        obtain ⟨k, hk, rfl⟩ := mem_el ht
        rw [hl] at hk
        rw [el_take hk]; exact HSm.out k hk⟩
      by_cases h120 : 120 < (el T j).size
      · have hE : putE 1 (T.take j) (el T j) = 2 := by unfold putE; rw [hck, if_neg (by decide), if_pos h120]
        unfold putB putW at hput
        rw [hE, if_neg (by decide), if_neg (by decide)] at hput
        have HPut := Lib.hid hput; clear hput hE hck hl
        have hd3 : decide (120 < (el T j).size) = true := by simpa using h120
        go_wp2_with fail
        refine HPut.out.mono ?_
        rintro e w3 ⟨v, rfl, ho, hb⟩
        obtain ⟨a2, c2, hv, -⟩ := ho.slc
        subst hv
        have hB3 : Below w.heap.size w w3 := hB.trans (hb.mono hzr)
        clear ho hb
        go_wp2_with fail
        go_returns
        exact ⟨rfl, by have := hB3.size; go_grown⟩
      · have hE : putE 1 (T.take j) (el T j) = 0 := by unfold putE; rw [hck, if_neg (by decide), if_neg h120, hl, if_neg (by omega)]
        unfold putB putW at hput
        rw [hE, if_pos rfl, if_pos rfl, ← take_el hlt] at hput
        have HPut := Lib.hid hput; clear hput hE hck hl
        have HSm2 : Hid (∀ k, k < j + 1 → (el T k).size ≤ 120) := Lib.hid (fun k hk => by
          rcases Nat.lt_or_ge k j with h | h
          · exact HSm.out k h
          · obtain rfl : k = j := by omega
            omega)
        go_wp2_with fail
        refine HPut.out.mono ?_
        rintro e w3 ⟨v, rfl, ho, hb⟩
        obtain ⟨a2, c2, hv, -⟩ := ho.slc
        rw [List.length_take, Nat.min_eq_left (by omega)] at hv
        subst hv
        have hB3 : Below w.heap.size w w3 := hB.trans (hb.mono hzr)
        have HBs3 := Lib.hid (HBs.out.after hb)
        have HBt3 := Lib.hid (HBt.out.after hb)
        have HO3 := Lib.hid ho
        have hz3 := hb.size
        clear ho hb lbs s0 s1 fs0 fs1
        obtain ⟨lbs, s0, s1, fs0, fs1⟩ := HBs3.out.two
        go_wp2_with fail
        go_roundw
        case rel =>
          exact ⟨j + 1, a2, c2, by omega, by go_num, HSm2, Lib.hid (((HBs3.out.set 0 (.int .i64 1)).set 1 (.slice a2 (j + 1) c2)).alloc _), Lib.hid (Enc.Own.base ((show strE.Own _ wr.heap.size 9 (.slice a2 (j + 1) c2) (T.take (j + 1)) from ownsRow_setCell_below (ownsRow_setCell_below HO3.out (a := ⟨w2.heap.size, 0, none⟩) HBs.out.lt (.int .i64 1)) (a := ⟨w2.heap.size, 1, none⟩) HBs.out.lt (.slice a2 (j + 1) c2)).after (Below.alloc (Below.refl _ _) (Nat.le_refl _) _)) HBs.out.lt), Lib.hid (((HBt3.out.other (by simp; omega) _).other (by simp; omega) _).alloc _), ((hB3.setCell (by simp; omega) _).setCell (by simp; omega) _).alloc (by simp; omega) _⟩
        case measure => simp [intOf]; omega
    · obtain rfl : j = T.length := by omega
      obtain ⟨wo, rfl⟩ : ∃ wo : World, wo = wr := ⟨_, rfl⟩
      have small : ∀ t ∈ T, t.size ≤ 120 := fun t ht => by obtain ⟨k, hk, rfl⟩ := mem_el ht; exact HSm.out k hk
      have hf : LFix w.heap.size w2.heap.size wo.heap.size (wo.heap.size + 1) ta T := ⟨fun hn x hx hs => by
          obtain ⟨b9, o9, ha9, hl9, -⟩ := HT.out.row hn
          rw [hx] at ha9
          obtain rfl := Option.some.inj ha9
          simp only at hs; omega, by omega, lbs, by omega, few, small⟩
      have HF := Lib.hid hf
      have oz : w.heap.size < wo.heap.size := by have := HF.out.o1; have := HF.out.o2; omega
      have oz2 : w.heap.size < w2.heap.size := HF.out.o1
      have hA0 : LAll ((wo.alloc (.cells #[.int .i64 1] 3)).alloc (.cells #[.slice none 0 0] 22)) w.heap.size w2.heap.size wo.heap.size (wo.heap.size + 1) ta tc T 1 1 (.slice none 0 0) [] (.slice none 0 0) sa sc := by
        have hO := HO.out
        rw [List.take_length] at hO
        obtain ⟨a9, c9, h9, h10⟩ := hO.slc
        simp only [Value.slice.injEq] at h9
        obtain ⟨rfl, -, rfl⟩ := h9
        refine ⟨⟨(HBt.out.alloc _).alloc _, HT.out.below (B := w.heap.size) ((hB.alloc (by omega) _).alloc (by simp; omega) _) (Nat.le_refl _), (Blk.new wo _).alloc _, Blk.newAt _ _ _ (by simp), (HBs.out.alloc _).alloc _, Enc.Own.nil _ _ _ _, h10.after (by repeat' (first | exact Below.refl _ _ | assumption | (with_reducible refine Below.alloc ?_ ?_ _) | (with_reducible refine below_drewN ?_ _) | (with_reducible refine Below.drew ?_) | (with_reducible refine Below.setCell ?_ ?_ _) | go_size)), fun hn x hx hs => ?_⟩, Enc.Own.nil _ _ _ _, (fun k hk => by cases hk), (fun hn x hx hs => by cases hs), by omega, by omega, by omega, fun o ho => by simp at ho⟩
        have hlt9 := hO.lt x.block (by rw [hx]; rfl)
        rcases hs with hs | hs | hs | hs
        · omega
        · omega
        · omega
        · cases hs
      have HA0 := Lib.hid hA0
      clear hA0 hf small HBs HO HBt HSm lbs s0 s1 fs0 fs1 hlt hj
      go_wp2_with fail
      go_loopw [14, 61] (fun o i wx => ∃ (j n B : Nat) (old : List Int) (vg : Value) (sa : Option Addr) (sc : Nat), j ≤ X.length ∧ i = .int .i64 j ∧ old.length ≤ j ∧ Hid (LAll wx w.heap.size w2.heap.size wo.heap.size (wo.heap.size + 1) ta tc T n B o old vg sa sc) ∧ Below w.heap.size w wx) (fun _ i _ => X.length - (intOf i).toNat)
      case atStart => exact ⟨0, 1, 1, [], _, sa, sc, by omega, rfl, by simp, HA0, (hB.alloc (by omega) _).alloc (by simp; omega) _⟩
      case round =>
        clear HA0 hB
        obtain ⟨j, n, B, old, vg, sa, sc, hj, rfl, hol, HA, hB⟩ := hrel
        have hzq := hB.size
        have b1 := HA.out.b1; have b2 := HA.out.b2; have b3 := HA.out.b3
        by_cases hlt : j < X.length
        · obtain ⟨bx, offx, rfl, hblx, e1⟩ := intE_cell (HX.out.row.below hB (Nat.le_refl _)) j hlt
          generalize el X j = x at e1
          obtain ⟨D, hD⟩ : ∃ D : List ByteArray, D = T.drop (B - 1) := ⟨_, rfl⟩
          have fbs := HA.out.st.fbs
          have hwt := HA.out.st.wt
          obtain ⟨hc, hlen, hel⟩ := frames_at (B := B) few HF.out.small b1 (by omega)
          rw [← hD] at fbs hwt hc hlen hel
          obtain ⟨lbs, s0, s1, -, -⟩ := fbs.two
          have hfr := frames_any (B : Int) sa sc D wr hwt (hD ▸ StrsOk.of_small HF.out.small (B - 1))
          rw [hc] at hfr
          generalize framesL (B : Int) D = F at hfr hlen hel
          have HFr := Lib.hid hfr; have HEl := Lib.hid hel; have HD := Lib.hid hD
          have hF4 : F.length ≤ 4 := by omega
          have hFB : F.length + B ≤ T.length + 1 := by omega
          have HLen := Lib.hid hlen
          clear hfr hel hD hc hlen fbs hwt
          have hd4 : decide (4 < F.length) = false := decide_eq_false (by omega)
          go_wp2_with fail
          refine HFr.out.mono ?_
          rintro e wa ⟨v, rfl, ho, hb⟩
          have HFree := Lib.hid (fun (a : Option Addr) (c : Nat) (h : v = .slice a F.length c) => Free.newer HA.out.ow (h ▸ ho))
          obtain ⟨fa, fc, hv, hsF⟩ := ho.slc
          subst hv
          have HSF := Lib.hid hsF
          have HA1 := Lib.hid (HA.out.after hb)
          have hBa := hB.trans (hb.mono hzq)
          have hza := hb.size
          clear ho hsF hb HA s0 s1 lbs e1 hB
          obtain ⟨lbn, n0, -⟩ := HA1.out.st.fbn.one
          obtain ⟨oa, oc, hvo, -⟩ := HA1.out.ow.slc
          subst hvo
          go_wp2_with (at_builtin; refine wpA_int rfl _ _ rfl (wo.heap.size + 1 + 1) (.slice oa old.length oc) old rfl ?c0 _ (n : Int) rfl #[.int .i64 (n : Int)] (0, 0) ?c1 rfl ?c2 ?c3 ?_)
          case c0 => exact HA1.out.ow.after (by repeat' (first | exact Below.refl _ _ | assumption | (with_reducible refine Below.alloc ?_ ?_ _) | (with_reducible refine below_drewN ?_ _) | (with_reducible refine Below.drew ?_) | (with_reducible refine Below.setCell ?_ ?_ _) | go_size))
          case c1 => exact Blk.newAt _ _ _ (by first | rfl | (simp; done))
          case c2 => omega
          case c3 => (have := HA1.out.st.fbg.lt; simp; omega)
          intro g cap wb hown hgrow hat hlt2
          have HA2 := Lib.hid ((HA1.out.after (by repeat' (first | exact Below.refl _ _ | assumption | (with_reducible refine Below.alloc ?_ ?_ _) | (with_reducible refine below_drewN ?_ _) | (with_reducible refine Below.drew ?_) | (with_reducible refine Below.setCell ?_ ?_ _) | go_size))).push HF.out hown hgrow (by simp only [World.size_alloc]; exact hat))
          have HSF2 : Hid (frameE.Slc wb fa fc F) := Lib.hid ⟨HSF.out.1, HSF.out.2.1, HSF.out.2.2.1, RowAt.grownBy (RowAt.after HSF.out.row (by repeat' (first | exact Below.refl _ _ | assumption | (with_reducible refine Below.alloc ?_ ?_ _) | (with_reducible refine below_drewN ?_ _) | (with_reducible refine Below.drew ?_) | (with_reducible refine Below.setCell ?_ ?_ _) | go_size))) hgrow (HFree.out fa fc rfl)⟩
          have hBb : Below w.heap.size w wb := Below.grown (B := w.heap.size) (a := w) (hBa.trans (by repeat' (first | exact Below.refl _ _ | assumption | (with_reducible refine Below.alloc ?_ ?_ _) | (with_reducible refine below_drewN ?_ _) | (with_reducible refine Below.drew ?_) | (with_reducible refine Below.setCell ?_ ?_ _) | go_size))) hgrow (by simp; omega) (fun k hk => by have h8 := (HA1.out.ow.lt k hk).1; omega)
          have hzb := hBb.size
          clear hown hgrow hat HFree HSF HA1 hBa n0 lbn
          rcases Nat.eq_zero_or_pos F.length with hF0 | hF0
          · have hd5 : decide (0 < F.length) = false := decide_eq_false (by omega)
            have HF0 := Lib.hid hF0; clear hF0
            go_wp2_with fail
            refine (pick_any _ 2 _ (by decide) (by decide)).mono ?_
            rintro e wp ⟨rfl, rfl⟩
            generalize pickv _ 2 = p2
            by_cases hp2 : p2 = 0
            · have hq2 : (p2 == 0) = true := by simpa using hp2
              have HP2 := Lib.hid hp2; clear hp2
              go_wp2_with fail
              refine (pick_any _ _ _ (by omega) (by omega)).mono ?_
              rintro e wp ⟨rfl, rfl⟩
              have hpin := fun a => pickv_in a (n := (old.length : Int) + 1) (by omega)
              generalize hpr : pickv _ ((old.length : Int) + 1) = r
              have hr1 : 0 ≤ r ∧ r < (old.length : Int) + 1 := by rw [← hpr]; exact hpin _
              clear hpr hpin
              obtain ⟨r, rfl⟩ : ∃ q : Nat, r = (q : Int) := ⟨r.toNat, by omega⟩
              obtain ⟨hr0, hr1⟩ := hr1
              have hrl : r < (old ++ [(n : Int)]).length := by simp; omega
              obtain ⟨a5, c5, hv5, hs5⟩ := HA2.out.ow.slc
              simp only [Value.slice.injEq] at hv5
              obtain ⟨b5, off5, hb5, -, e5⟩ := intE_cell hs5.row r hrl
              rw [← hv5.1] at hb5
              simp only [Option.some.injEq, Addr.mk.injEq, and_true] at hb5
              obtain ⟨rfl, rfl⟩ := hb5
              rw [Nat.zero_add] at e5
              have ho := HA2.out.all _ (el_mem hrl)
              generalize el (old ++ [(n : Int)]) r = o1 at e5 ho
              obtain ⟨ho1, ho2⟩ := ho
              obtain ⟨oo, rfl⟩ : ∃ q : Nat, o1 = (q : Int) := ⟨o1.toNat, by omega⟩
              clear hv5 hs5 a5 c5
              go_wp2_with fail
              refine (hr_any w2.heap.size (B : Int) (oo : Int) (T.drop (B - 1)) sa sc _ HA2.out.st.fbs HA2.out.st.wt (StrsOk.of_small HF.out.small (B - 1)) (heard_at few HF.out.small b1 (by omega) (by omega) (by have := HA2.out.b3; omega)).1).mono ?_
              intro e wh hh
              obtain ⟨rfl, hK, sa', sc', hA'⟩ := LAll.hear HF.out HA2.out (by omega) (by omega) hh
              have HA' := Lib.hid hA'
              have hBh : Below w.heap.size w wh := hBb.trans (hK.below hBb.size (fun k hk => by omega))
              clear hh hA' hK e5
              go_wp2_with fail
              go_roundw
              case rel => exact ⟨j + 1, n, max B oo, _, _, sa', sc', by omega, by go_num, by simp; omega, HA', hBh⟩
              case measure => simp [intOf]; omega
            · have hq2 : (p2 == 0) = false := by simpa using hp2
              have HP2 := Lib.hid hp2; clear hp2
              go_wp2_with fail
              go_roundw
              case rel => exact ⟨j + 1, n, B, _, _, sa, sc, by omega, by go_num, by simp; omega, HA2, hBb⟩
              case measure => simp [intOf]; omega
          · have hd5 : decide (0 < F.length) = true := decide_eq_true (by omega)
            go_wp2_with fail
            refine (pick_any _ 3 _ (by decide) (by decide)).mono ?_
            rintro e wp ⟨rfl, rfl⟩
            generalize pickv _ 3 = p3
            by_cases hp3 : p3 < 2
            · go_wp2_with fail
              refine (pick_any _ _ _ (by omega) (by omega)).mono ?_
              rintro e wp ⟨rfl, rfl⟩
              have hpin := fun a => pickv_in a (n := (F.length : Int)) (by omega)
              generalize hpr : pickv _ (F.length : Int) = q
              have hq1 : 0 ≤ q ∧ q < (F.length : Int) := by rw [← hpr]; exact hpin _
              clear hpr hpin
              obtain ⟨q, rfl⟩ : ∃ y : Nat, q = (y : Int) := ⟨q.toNat, by omega⟩
              obtain ⟨hq0, hq1⟩ := hq1
              obtain ⟨bf, offf, rfl, hblf, e6, e7⟩ := frameE_cell HSF2.out.row q (by omega)
              rw [HEl.out q (by omega)] at e6 e7
              simp only at e6 e7
              obtain ⟨m, hm⟩ : ∃ m : Nat, m = B + q := ⟨_, rfl⟩
              rw [← hm] at e6 e7
              have hm1 : 1 ≤ m := by omega
              have hm2 : m ≤ T.length := by omega
              have HM := Lib.hid hm; clear hm
              go_wp2_with fail
              refine (tk_any wo.heap.size (wo.heap.size + 1) w.heap.size (wo.heap.size + 1 + 1) n m T ta tc vg _ HA2.out.st.fbn HA2.out.st.fbg HA2.out.st.fbt HA2.out.st.tx HF.out.tout HA2.out.st.gt (by omega) (by omega) (by omega) (HA2.out.st.fbg.lt) (by omega) b3 hm1 hm2 few HF.out.small).mono ?_
              intro e wk hk
              obtain ⟨rfl, hK, vg', hA'⟩ := LAll.take HF.out HA2.out hm2 hk
              generalize (if m = n then n + 1 else n) = n3 at hA'
              have HA3 := Lib.hid hA'
              have hBk : Below w.heap.size w wk := hBb.trans (hK.below hzb (fun k hk => by rcases hk with h | h | h; omega; omega; (have h8 := (HA2.out.st.gt.lt k h).1; omega)))
              clear hk hA' hK e6 e7 HA2 hBb
              go_wp2_with fail
              refine (pick_any _ 2 _ (by decide) (by decide)).mono ?_
              rintro e wp ⟨rfl, rfl⟩
              generalize pickv _ 2 = p2
              by_cases hp2 : p2 = 0
              · have hq2 : (p2 == 0) = true := by simpa using hp2
                have HP2 := Lib.hid hp2; clear hp2
                go_wp2_with fail
                refine (pick_any _ _ _ (by omega) (by omega)).mono ?_
                rintro e wp ⟨rfl, rfl⟩
                have hpin := fun a => pickv_in a (n := (old.length : Int) + 1) (by omega)
                generalize hpr : pickv _ ((old.length : Int) + 1) = r
                have hr1 : 0 ≤ r ∧ r < (old.length : Int) + 1 := by rw [← hpr]; exact hpin _
                clear hpr hpin
                obtain ⟨r, rfl⟩ : ∃ q : Nat, r = (q : Int) := ⟨r.toNat, by omega⟩
                obtain ⟨hr0, hr1⟩ := hr1
                have hrl : r < (old ++ [(n : Int)]).length := by simp; omega
                obtain ⟨a5, c5, hv5, hs5⟩ := HA3.out.ow.slc
                simp only [Value.slice.injEq] at hv5
                obtain ⟨b5, off5, hb5, -, e5⟩ := intE_cell hs5.row r hrl
                rw [← hv5.1] at hb5
                simp only [Option.some.injEq, Addr.mk.injEq, and_true] at hb5
                obtain ⟨rfl, rfl⟩ := hb5
                rw [Nat.zero_add] at e5
                have ho := HA3.out.all _ (el_mem hrl)
                generalize el (old ++ [(n : Int)]) r = o1 at e5 ho
                obtain ⟨ho1, ho2⟩ := ho
                obtain ⟨oo, rfl⟩ : ∃ q : Nat, o1 = (q : Int) := ⟨o1.toNat, by omega⟩
                clear hv5 hs5 a5 c5
                go_wp2_with fail
                refine (hr_any w2.heap.size (B : Int) (oo : Int) (T.drop (B - 1)) sa sc _ HA3.out.st.fbs HA3.out.st.wt (StrsOk.of_small HF.out.small (B - 1)) (heard_at few HF.out.small b1 (by omega) (by omega) (by have := HA3.out.b3; omega)).1).mono ?_
                intro e wh hh
                obtain ⟨rfl, hK, sa', sc', hA'⟩ := LAll.hear HF.out HA3.out (by omega) (by omega) hh
                have HA' := Lib.hid hA'
                have hBh : Below w.heap.size w wh := hBk.trans (hK.below hBk.size (fun k hk => by omega))
                clear hh hA' hK e5
                go_wp2_with fail
                go_roundw
                case rel => exact ⟨j + 1, n3, max B oo, _, _, sa', sc', by omega, by go_num, by simp; omega, HA', hBh⟩
                case measure => simp [intOf]; omega
              · have hq2 : (p2 == 0) = false := by simpa using hp2
                have HP2 := Lib.hid hp2; clear hp2
                go_wp2_with fail
                go_roundw
                case rel => exact ⟨j + 1, n3, B, _, _, sa, sc, by omega, by go_num, by simp; omega, HA3, hBk⟩
                case measure => simp [intOf]; omega
            · go_wp2_with fail
              refine (pick_any _ 2 _ (by decide) (by decide)).mono ?_
              rintro e wp ⟨rfl, rfl⟩
              generalize pickv _ 2 = p2
              by_cases hp2 : p2 = 0
              · have hq2 : (p2 == 0) = true := by simpa using hp2
                have HP2 := Lib.hid hp2; clear hp2
                go_wp2_with fail
                refine (pick_any _ _ _ (by omega) (by omega)).mono ?_
                rintro e wp ⟨rfl, rfl⟩
                have hpin := fun a => pickv_in a (n := (old.length : Int) + 1) (by omega)
                generalize hpr : pickv _ ((old.length : Int) + 1) = r
                have hr1 : 0 ≤ r ∧ r < (old.length : Int) + 1 := by rw [← hpr]; exact hpin _
                clear hpr hpin
                obtain ⟨r, rfl⟩ : ∃ q : Nat, r = (q : Int) := ⟨r.toNat, by omega⟩
                obtain ⟨hr0, hr1⟩ := hr1
                have hrl : r < (old ++ [(n : Int)]).length := by simp; omega
                obtain ⟨a5, c5, hv5, hs5⟩ := HA2.out.ow.slc
                simp only [Value.slice.injEq] at hv5
                obtain ⟨b5, off5, hb5, -, e5⟩ := intE_cell hs5.row r hrl
                rw [← hv5.1] at hb5
                simp only [Option.some.injEq, Addr.mk.injEq, and_true] at hb5
                obtain ⟨rfl, rfl⟩ := hb5
                rw [Nat.zero_add] at e5
                have ho := HA2.out.all _ (el_mem hrl)
                generalize el (old ++ [(n : Int)]) r = o1 at e5 ho
                obtain ⟨ho1, ho2⟩ := ho
                obtain ⟨oo, rfl⟩ : ∃ q : Nat, o1 = (q : Int) := ⟨o1.toNat, by omega⟩
                clear hv5 hs5 a5 c5
                go_wp2_with fail
                refine (hr_any w2.heap.size (B : Int) (oo : Int) (T.drop (B - 1)) sa sc _ HA2.out.st.fbs HA2.out.st.wt (StrsOk.of_small HF.out.small (B - 1)) (heard_at few HF.out.small b1 (by omega) (by omega) (by have := HA2.out.b3; omega)).1).mono ?_
                intro e wh hh
                obtain ⟨rfl, hK, sa', sc', hA'⟩ := LAll.hear HF.out HA2.out (by omega) (by omega) hh
                have HA' := Lib.hid hA'
                have hBh : Below w.heap.size w wh := hBb.trans (hK.below hBb.size (fun k hk => by omega))
                clear hh hA' hK e5
                go_wp2_with fail
                go_roundw
                case rel => exact ⟨j + 1, n, max B oo, _, _, sa', sc', by omega, by go_num, by simp; omega, HA', hBh⟩
                case measure => simp [intOf]; omega
              · have hq2 : (p2 == 0) = false := by simpa using hp2
                have HP2 := Lib.hid hp2; clear hp2
                go_wp2_with fail
                go_roundw
                case rel => exact ⟨j + 1, n, B, _, _, sa, sc, by omega, by go_num, by simp; omega, HA2, hBb⟩
                case measure => simp [intOf]; omega
        · have hge : X.length ≤ j := by omega
          obtain ⟨wq, rfl⟩ : ∃ wq : World, wq = wr := ⟨_, rfl⟩
          obtain ⟨lbt, t0, -⟩ := HA.out.st.fbt.one
          obtain ⟨oa, oc, hvo, -⟩ := HA.out.ow.slc
          subst hvo
          go_wp2_with fail
          go_loopw [122] (fun i wx => ∃ (j n B : Nat) (vg : Value) (sa : Option Addr) (sc : Nat), j ≤ T.length ∧ i = .int .i64 j ∧ Hid (LAll wx w.heap.size w2.heap.size wo.heap.size (wo.heap.size + 1) ta tc T n B (.slice oa old.length oc) old vg sa sc) ∧ Hid (min T.length j ≤ n - 1) ∧ Hid (1 ≤ j → B = n) ∧ Below w.heap.size w wx) (fun i _ => T.length - (intOf i).toNat)
          case atStart => exact ⟨0, n, B, vg, sa, sc, by omega, rfl, HA, Lib.hid (by omega), Lib.hid (fun h => absurd h (by omega)), hB⟩
          case round =>
            clear HA hB b1 b2 b3 hzq t0 lbt
            obtain ⟨j, n, B, vg, sa, sc, hj, rfl, HA, HP, HQ, hB⟩ := hrel
            have hzq := hB.size
            have b1 := HA.out.b1; have b2 := HA.out.b2; have b3 := HA.out.b3
            by_cases hlt : j < T.length
            · obtain ⟨wv, rfl⟩ : ∃ wv : World, wv = wr := ⟨_, rfl⟩
              obtain ⟨D, hD⟩ : ∃ D : List ByteArray, D = T.drop (B - 1) := ⟨_, rfl⟩
              have fbs := HA.out.st.fbs
              have hwt := HA.out.st.wt
              obtain ⟨hc, hlen, hel⟩ := frames_at (B := B) few HF.out.small b1 (by omega)
              rw [← hD] at fbs hwt hc hlen hel
              obtain ⟨lbs, s0, s1, -, -⟩ := fbs.two
              have hfr := frames_any (B : Int) sa sc D wv hwt (hD ▸ StrsOk.of_small HF.out.small (B - 1))
              rw [hc] at hfr
              generalize framesL (B : Int) D = F at hfr hlen hel
              have HFr := Lib.hid hfr; have HEl := Lib.hid hel; have HD := Lib.hid hD
              have hF4 : F.length ≤ 4 := by omega
              have hFB : F.length + B ≤ T.length + 1 := by omega
              have HLen := Lib.hid hlen
              clear hfr hel hD hc hlen fbs hwt
              go_wp2_with fail
              refine HFr.out.mono ?_
              rintro e wa ⟨v, rfl, ho, hb⟩
              obtain ⟨fa, fc, hv, hsF⟩ := ho.slc
              subst hv
              have HSF := Lib.hid hsF
              have HOut : Hid (Out F.length fa (tkS wo.heap.size (wo.heap.size + 1) vg)) := Lib.hid (fun hn x hx hs => by
                have h8 := (ho.lt x.block (by rw [hx]; rfl)).1
                have l2 := HA.out.st.fbn.lt; have l3 := HA.out.st.fbg.lt
                rcases hs with h | h | h
                · omega
                · omega
                · have := (HA.out.st.gt.lt _ h).2; omega)
              have HA1 := Lib.hid (HA.out.after hb)
              have hBa := hB.trans (hb.mono hzq)
              clear ho hsF hb HA s0 s1 lbs hB
              go_wp2_with fail
              go_loopw [133] (fun i wx => ∃ (q n' : Nat) (vg : Value), q ≤ F.length ∧ i = .int .i64 q ∧ Hid (LAll wx w.heap.size w2.heap.size wo.heap.size (wo.heap.size + 1) ta tc T n' B (.slice oa old.length oc) old vg sa sc) ∧ Hid (n' = max n (B + q)) ∧ Hid (frameE.Slc wx fa fc F) ∧ Hid (Out F.length fa (tkS wo.heap.size (wo.heap.size + 1) vg)) ∧ Below w.heap.size w wx) (fun i _ => F.length - (intOf i).toNat)
              case atStart => exact ⟨0, n, vg, by omega, rfl, HA1, Lib.hid (by omega), HSF, HOut, hBa⟩
              case round =>
                clear HA1 HSF HOut hBa
                obtain ⟨q, n', vg, hq, rfl, HA, HN, HSF, HOut, hB⟩ := hrel
                have hzr := hB.size
                have c2 := HA.out.b2; have c3 := HA.out.b3
                by_cases hlq : q < F.length
                · obtain ⟨bf, offf, rfl, hblf, e6, e7⟩ := frameE_cell HSF.out.row q hlq
                  rw [HEl.out q hlq] at e6 e7
                  simp only at e6 e7
                  obtain ⟨m, hm⟩ : ∃ m : Nat, m = B + q := ⟨_, rfl⟩
                  rw [← hm] at e6 e7
                  have hm1 : 1 ≤ m := by omega
                  have hm2 : m ≤ T.length := by omega
                  have HM := Lib.hid hm; clear hm
                  have HA2 := Lib.hid (HA.out.after (w' := wr.alloc (.cells #[.int .i64 (m : Int), .string (el T (m - 1))] 32)) (by repeat' (first | exact Below.refl _ _ | assumption | (with_reducible refine Below.alloc ?_ ?_ _) | (with_reducible refine below_drewN ?_ _) | (with_reducible refine Below.drew ?_) | (with_reducible refine Below.setCell ?_ ?_ _) | go_size)))
                  have HSF2 := Lib.hid (HSF.out.after (w' := wr.alloc (.cells #[.int .i64 (m : Int), .string (el T (m - 1))] 32)) (by repeat' (first | exact Below.refl _ _ | assumption | (with_reducible refine Below.alloc ?_ ?_ _) | (with_reducible refine below_drewN ?_ _) | (with_reducible refine Below.drew ?_) | (with_reducible refine Below.setCell ?_ ?_ _) | go_size)))
                  go_wp2_with fail
                  refine (tk_any wo.heap.size (wo.heap.size + 1) w.heap.size (wo.heap.size + 1 + 1) n' m T ta tc vg _ HA2.out.st.fbn HA2.out.st.fbg HA2.out.st.fbt HA2.out.st.tx HF.out.tout HA2.out.st.gt (by omega) (by omega) (by omega) (HA2.out.st.fbg.lt) (by omega) c3 hm1 hm2 few HF.out.small).mono ?_
                  intro e wk hk
                  have hk5 := hk.2.2
                  obtain ⟨rfl, hK, vg', hA', hvg⟩ := LAll.take2 HF.out HA2.out hm2 hk
                  have hn3 : (if m = n' then n' + 1 else n') = max n (B + (q + 1)) := by
                    have h1 := HN.out; have h2 := HM.out
                    split <;> omega
                  have HN3 := Lib.hid hn3
                  generalize (if m = n' then n' + 1 else n') = n3 at hA' HN3
                  have HA3 := Lib.hid hA'
                  have HSF3 := Lib.hid (HSF2.out.keeps hK HOut.out)
                  have HOut3 : Hid (Out F.length (some ⟨bf, offf, none⟩) (tkS wo.heap.size (wo.heap.size + 1) vg')) := Lib.hid (fun hn x hx hs => by
                    rcases hs with h | h | h
                    · exact HOut.out hn x hx (.inl h)
                    · exact HOut.out hn x hx (.inr (.inl h))
                    · rcases hvg with hv | hv
                      · exact HOut.out hn x hx (.inr (.inr (hv ▸ h)))
                      · have h9 := hv _ h
                        obtain rfl := Option.some.inj hx
                        simp at h9; omega)
                  have hBk : Below w.heap.size w wk := (hB.alloc (by omega) _).trans (hK.below (by simp; omega) (fun k hk => by rcases hk with h | h | h; omega; omega; (have h8 := (HA2.out.st.gt.lt k h).1; omega)))
                  clear hk hk5 hA' hK e6 e7 HA2 hvg hn3
                  go_wp2_with fail
                  go_roundw
                  case rel => exact ⟨q + 1, n3, vg', by omega, by go_num, HA3, HN3, HSF3, HOut3, hBk⟩
                  case measure => simp [intOf]; omega
                · have HNq : Hid (n' = max n (B + F.length)) := Lib.hid (by rw [HN.out, show q = F.length by omega])
                  obtain ⟨lbn, x0, -⟩ := HA.out.st.fbn.one
                  go_wp2_with fail
                  refine (hr_any w2.heap.size (B : Int) (n' : Int) (T.drop (B - 1)) sa sc _ HA.out.st.fbs HA.out.st.wt (StrsOk.of_small HF.out.small (B - 1)) (heard_at few HF.out.small b1 (by omega) (by omega) c3).1).mono ?_
                  intro e wh hh
                  obtain ⟨rfl, hK, sa', sc', hA'⟩ := LAll.hear HF.out HA.out (by omega) (Nat.le_refl _) hh
                  have HA' := Lib.hid hA'
                  have hBh : Below w.heap.size w wh := hB.trans (hK.below hB.size (fun k hk => by omega))
                  have HP2 : Hid (min T.length (j + 1) ≤ n' - 1) := Lib.hid (by
                    have h1 := HP.out; have h2 := HNq.out; have h3 := HLen.out
                    by_cases h0 : 1 ≤ j
                    · have h4 := HQ.out h0; omega
                    · by_cases h5 : B = n
                      · omega
                      · omega)
                  clear hh hA' hK x0 lbn
                  go_wp2_with fail
                  go_roundw
                  case rel => exact ⟨j + 1, n', max B n', vg, sa', sc', by omega, by go_num, HA', HP2, Lib.hid (fun _ => by omega), hBh⟩
                  case measure => simp [intOf]; omega
            · have hn : n - 1 = T.length := by have := HP.out; omega
              have hD0 : (T.drop (B - 1)).length = 0 := by
                rw [List.length_drop]
                rcases Nat.eq_zero_or_pos T.length with h0 | h0
                · omega
                · have := HQ.out (by omega); omega
              have hgt := HA.out.st.gt
              rw [hn, List.take_length] at hgt
              obtain ⟨ga, gc, hvg, hsg⟩ := hgt.slc
              subst hvg
              have fbs := HA.out.st.fbs
              rw [hD0] at fbs
              obtain ⟨lbg, g0, -⟩ := HA.out.st.fbg.one
              obtain ⟨lbt, t0, -⟩ := HA.out.st.fbt.one
              have HBs := Lib.hid fbs
              have HSG := Lib.hid hsg
              have HTX := Lib.hid HA.out.st.tx
              have heq := equal_strs ga gc T ta tc T wr HSG.out HTX.out
              rw [decide_eq_true rfl] at heq
              have HEQ := Lib.hid heq
              clear heq fbs hsg hgt hD0 hn
              go_wp2_with fail
              refine HEQ.out.mono ?_
              rintro e wz ⟨rfl, hb⟩
              have hBz := hB.trans (hb.mono hzq)
              obtain ⟨lbs, s0, s1, -, -⟩ := (HBs.out.after hb).two
              clear hb
              go_wp2_with fail
              go_returns
              exact ⟨rfl, hBz⟩

end Go.Proofs.Ytckjibjnplnfeaa
