/- What link.Put returns, for every input. -/
import Derived.Test.YtckjibjnplnfeaaLink2
import Derived.Deep.RegionLaw
import Derived.Deep.AppendLies
set_option linter.unusedVariables false
set_option linter.unusedSimpArgs false
namespace Go.Proofs.Ytckjibjnplnfeaa
open Go.RowKit
attribute [local go_sem ↓] Go.wp_at_zero Go.wp_at_succ

def putE (b : Int) (ws : List ByteArray) (t : ByteArray) : Int := if lchk b ws ≠ 0 then lchk b ws else if 120 < t.size then 2 else if ws.length = 32 ∨ b + ws.length = 100000 then 9 else 0
def putB (b : Int) (ws : List ByteArray) (t : ByteArray) : Int := if putE b ws t = 0 then b else 0
def putW (b : Int) (ws : List ByteArray) (t : ByteArray) : List ByteArray := if putE b ws t = 0 then ws ++ [t] else []
theorem own_snoc {w : World} {base : Nat} {T : TypeId} {v : Value} {l : List ByteArray} {t : ByteArray} (h : w.ownsRow base T 1 v (l.length + 1) (strE.flat l ++ [.string t])) : strE.Own w base T v (l ++ [t]) := by
  show w.ownsRow base T 1 v (l ++ [t]).length (strE.flat (l ++ [t]))
  rw [Enc.flat_snoc, List.length_append]; exact h
set_option maxRecDepth 100000 in
set_option maxHeartbeats 4000000 in
theorem put_any (b : Int) (a : Option Addr) (c : Nat) (ws : List ByteArray) (t : ByteArray) (w : World) (hs : strE.Slc w a c ws) (hok : StrsOk ws) (ht : t.size ≤ maxLen) :
    Calls Try.prog 7 #[.agg #[.int .i64 b, .slice a ws.length c], .string t] w (Sender w (putE b ws t) (putB b ws t) (putW b ws t)) := by
  have HS := Lib.hid hs; have HOk := Lib.hid hok; clear hs hok
  have hlc := HS.out.1
  have hmx := HS.out.2.1
  unfold maxLen at hmx ht
  obtain ⟨i0, hi, hz0, hz1, hz2⟩ := info_parts info_str
  go_enter Try.func7, Try.ntmps7
  go_wp2_with fail
  refine (lcheck_any b a c ws _ (HS.out.after (by repeat' (first | exact Below.refl _ _ | assumption | (with_reducible refine Below.alloc ?_ ?_ _) | (with_reducible refine below_drewN ?_ _) | (with_reducible refine Below.drew ?_) | (with_reducible refine Below.setCell ?_ ?_ _) | go_size))) HOk.out).mono ?_
  rintro e w1 ⟨rfl, hb⟩
  have hB : Below w.heap.size w w1 := Below.step (by repeat' (first | exact Below.refl _ _ | assumption | (with_reducible refine Below.alloc ?_ ?_ _) | (with_reducible refine below_drewN ?_ _) | (with_reducible refine Below.drew ?_) | (with_reducible refine Below.setCell ?_ ?_ _) | go_size)) hb (by go_size)
  have hz := hb.size
  simp only [World.size_alloc] at hz
  have BS := Lib.hid (Blk.after ((Blk.new w (.cells #[.int .i64 b, .slice a ws.length c] 26)).alloc (.cells #[.int .i64 0, .slice none 0 0] 26)) hb)
  have BR := Lib.hid (Blk.after (Blk.newAt (w.alloc (.cells #[.int .i64 b, .slice a ws.length c] 26)) (.cells #[.int .i64 0, .slice none 0 0] 26) (w.heap.size + 1) (by simp)) hb)
  clear hb
  obtain ⟨ls, cs0, cs1, -, -⟩ := BS.out.two
  obtain ⟨lr, cr0, cr1, fr0, fr1⟩ := BR.out.two
  generalize hk : lchk b ws = k
  by_cases h0 : k = 0
  · subst h0
    obtain ⟨z1, z2, z3, -⟩ := (lchk_zero b ws).1 hk
    have HK := Lib.hid hk; clear hk
    by_cases ht1 : 120 < t.size
    · have hd : decide (120 < t.size) = true := by simpa using ht1
      have HE : Hid (putE b ws t = 2) := Lib.hid (by unfold putE; rw [HK.out, if_neg (by decide), if_pos ht1])
      go_wp2_with fail
      have BR2 := Lib.hid ((BR.out.set 0 (.int .i64 0)).set 1 (.slice none 0 0))
      have hBr := (hB.setCell (p := ⟨w.heap.size + 1, 0, none⟩) (by simp) (.int .i64 0)).setCell (p := ⟨w.heap.size + 1, 1, none⟩) (by simp) (.slice none 0 0)
      generalize (w1.setCell ⟨w.heap.size + 1, 0, none⟩ (.int .i64 0)).setCell ⟨w.heap.size + 1, 1, none⟩ (.slice none 0 0) = W2 at BR2 hBr ⊢
      obtain ⟨l2, d0, d1, -, -⟩ := BR2.out.two
      refine bodyPost_ret (v := .tuple #[.agg #[.int .i64 0, .slice none 0 0], .int .i64 (2)]) (by simp [results, Try.results7, go_sem, d0, d1]) rfl ?_
      exact sender_no (by unfold putB; rw [HE.out, if_neg (by decide)]) (by unfold putW; rw [HE.out, if_neg (by decide)]) HE.out hBr
    have hd : decide (120 < t.size) = false := by simpa using ht1
    by_cases hf : ws.length = 32 ∨ b + ws.length = 100000
    · have HE : Hid (putE b ws t = 9) := Lib.hid (by unfold putE; rw [HK.out, if_neg (by decide), if_neg ht1, if_pos hf])
      have hq : ((ws.length : Int) == 32 || b + (ws.length : Int) == 100000) = true := by simp; omega
      by_cases hf1 : ws.length = 32
      · have hq1 : ((ws.length : Int) == 32) = true := by simp; omega
        clear hf
        have HF := Lib.hid hf1; clear hf1
        go_wp2_with fail
        have BR2 := Lib.hid ((BR.out.set 0 (.int .i64 0)).set 1 (.slice none 0 0))
        have hBr := (hB.setCell (p := ⟨w.heap.size + 1, 0, none⟩) (by simp) (.int .i64 0)).setCell (p := ⟨w.heap.size + 1, 1, none⟩) (by simp) (.slice none 0 0)
        generalize (w1.setCell ⟨w.heap.size + 1, 0, none⟩ (.int .i64 0)).setCell ⟨w.heap.size + 1, 1, none⟩ (.slice none 0 0) = W2 at BR2 hBr ⊢
        obtain ⟨l2, d0, d1, -, -⟩ := BR2.out.two
        refine bodyPost_ret (v := .tuple #[.agg #[.int .i64 0, .slice none 0 0], .int .i64 (9)]) (by simp [results, Try.results7, go_sem, d0, d1]) rfl ?_
        exact sender_no (by unfold putB; rw [HE.out, if_neg (by decide)]) (by unfold putW; rw [HE.out, if_neg (by decide)]) HE.out hBr
      · have hq1 : ((ws.length : Int) == 32) = false := by simp; omega
        have hq2 : (b + (ws.length : Int) == 100000) = true := by simp; omega
        clear hf
        have HF := Lib.hid hf1; clear hf1
        go_wp2_with fail
        have BR2 := Lib.hid ((BR.out.set 0 (.int .i64 0)).set 1 (.slice none 0 0))
        have hBr := (hB.setCell (p := ⟨w.heap.size + 1, 0, none⟩) (by simp) (.int .i64 0)).setCell (p := ⟨w.heap.size + 1, 1, none⟩) (by simp) (.slice none 0 0)
        generalize (w1.setCell ⟨w.heap.size + 1, 0, none⟩ (.int .i64 0)).setCell ⟨w.heap.size + 1, 1, none⟩ (.slice none 0 0) = W2 at BR2 hBr ⊢
        obtain ⟨l2, d0, d1, -, -⟩ := BR2.out.two
        refine bodyPost_ret (v := .tuple #[.agg #[.int .i64 0, .slice none 0 0], .int .i64 (9)]) (by simp [results, Try.results7, go_sem, d0, d1]) rfl ?_
        exact sender_no (by unfold putB; rw [HE.out, if_neg (by decide)]) (by unfold putW; rw [HE.out, if_neg (by decide)]) HE.out hBr
    have HE : Hid (putE b ws t = 0) := Lib.hid (by unfold putE; rw [HK.out, if_neg (by decide), if_neg ht1, if_neg hf])
    have hq1 : ((ws.length : Int) == 32) = false := by simp; omega
    have hq2 : (b + (ws.length : Int) == 100000) = false := by simp; omega
    have HF := Lib.hid hf; clear hf
    have HCL : Hid (∀ W, strE.Slc W a c ws → Calls Try.prog 23 #[.slice a ws.length c] W fun e w' => ∃ v, e = .returned v ∧ strE.Own w' W.heap.size 9 v ws ∧ Below W.heap.size W w') := Lib.hid (fun W hW => (cloneL_str a c ws W hW (by omega)).mono fun e w' ⟨v, h1, h2, h3, _⟩ => ⟨v, h1, h2, h3⟩)
    go_wp2_with fail
    go_region_held3 (fun w' => w'.cell? ⟨w.heap.size, 0, none⟩ = some (.int .i64 b) ∧ w'.cell? ⟨w.heap.size, 1, none⟩ = some (.slice a ws.length c))
      (first | go_keep | exact ⟨by assumption, by assumption⟩)
      (first
      | (go_at_call 23; refine (HCL.out _ (HS.out.below (B := w.heap.size) (hB.trans (by repeat' (first | exact Below.refl _ _ | assumption | (with_reducible refine Below.alloc ?_ ?_ _) | (with_reducible refine below_drewN ?_ _) | (with_reducible refine Below.drew ?_) | (with_reducible refine Below.setCell ?_ ?_ _) | go_size))) (Nat.le_refl _))).mono ?_; rintro e w2 ⟨v, rfl, hown, hb2⟩; obtain ⟨a2, c2, rfl, -⟩ := hown.slc; have hzz := hb2.size; simp only [World.size_alloc, World.size_drew] at hzz; have B2 := Lib.hid (Blk.after (Blk.after BS.out (by repeat' (first | exact Below.refl _ _ | assumption | (with_reducible refine Below.alloc ?_ ?_ _) | (with_reducible refine below_drewN ?_ _) | (with_reducible refine Below.drew ?_) | (with_reducible refine Below.setCell ?_ ?_ _) | go_size))) hb2); have R2 := Lib.hid (Blk.after (Blk.after BR.out (by repeat' (first | exact Below.refl _ _ | assumption | (with_reducible refine Below.alloc ?_ ?_ _) | (with_reducible refine below_drewN ?_ _) | (with_reducible refine Below.drew ?_) | (with_reducible refine Below.setCell ?_ ?_ _) | go_size))) hb2); obtain ⟨ls2, cs20, cs21, -, -⟩ := B2.out.two; obtain ⟨lr2, cr20, cr21, fr20, fr21⟩ := R2.out.two)
      | (refine stepA_str rfl _ _ rfl w1.heap.size (.slice a2 ws.length c2) ws rfl ?_ w2.heap.size t rfl #[.string t] (0, 0) ?_ rfl ?_ ?_ ?_; (first | exact Enc.Own.base hown (by simp) | exact Enc.Own.base (hown.after (by repeat' (first | exact Below.refl _ _ | assumption | (with_reducible refine Below.alloc ?_ ?_ _) | (with_reducible refine below_drewN ?_ _) | (with_reducible refine Below.drew ?_) | (with_reducible refine Below.setCell ?_ ?_ _) | go_size))) (by simp)); (first | exact Blk.newAt _ _ _ (by simp; done) | exact Blk.after (Blk.drew (Blk.newAt w1 (.cells #[.string t] 9) _ rfl)) hb2 | exact Blk.after (Blk.newAt w1.drew (.cells #[.string t] 9) _ rfl) hb2); omega; (first | omega | (simp; omega)); intro g cap w3 hown3 hgrow hat hlt3; have hne : ∀ q, q < w1.heap.size → some q ≠ (Value.slice a2 ws.length c2).ownBlock := (fun q hq hh => by have h1 := (hown.lt q hh.symm).1; (try simp at h1); omega); have B3 := Lib.hid ((hgrow.block _ (by first | omega | (simp; omega)) (hne w.heap.size (by omega))).trans (Blk.after B2.out (by repeat' (first | exact Below.refl _ _ | assumption | (with_reducible refine Below.alloc ?_ ?_ _) | (with_reducible refine below_drewN ?_ _) | (with_reducible refine Below.drew ?_) | (with_reducible refine Below.setCell ?_ ?_ _) | go_size)))); have R3 := Lib.hid ((hgrow.block _ (by first | omega | (simp; omega)) (hne (w.heap.size + 1) (by omega))).trans (Blk.after R2.out (by repeat' (first | exact Below.refl _ _ | assumption | (with_reducible refine Below.alloc ?_ ?_ _) | (with_reducible refine below_drewN ?_ _) | (with_reducible refine Below.drew ?_) | (with_reducible refine Below.setCell ?_ ?_ _) | go_size)))); obtain ⟨ls3, y0, y1, -, -⟩ := Blk.two B3.out; obtain ⟨lr3, y2, y3, y4, y5⟩ := Blk.two R3.out)
      | (refine stepA_str rfl _ _ rfl w1.heap.size (.slice a2 ws.length c2) ws rfl ?_ w1.heap.size t rfl #[.string t] (0, 0) ?_ rfl ?_ ?_ ?_; (first | exact Enc.Own.base hown (by simp) | exact Enc.Own.base (hown.after (by repeat' (first | exact Below.refl _ _ | assumption | (with_reducible refine Below.alloc ?_ ?_ _) | (with_reducible refine below_drewN ?_ _) | (with_reducible refine Below.drew ?_) | (with_reducible refine Below.setCell ?_ ?_ _) | go_size))) (by simp)); (first | exact Blk.newAt _ _ _ (by simp; done) | exact Blk.after (Blk.drew (Blk.newAt w1 (.cells #[.string t] 9) _ rfl)) hb2 | exact Blk.after (Blk.newAt w1.drew (.cells #[.string t] 9) _ rfl) hb2); omega; (first | omega | (simp; omega)); intro g cap w3 hown3 hgrow hat hlt3; have hne : ∀ q, q < w1.heap.size → some q ≠ (Value.slice a2 ws.length c2).ownBlock := (fun q hq hh => by have h1 := (hown.lt q hh.symm).1; (try simp at h1); omega); have B3 := Lib.hid ((hgrow.block _ (by first | omega | (simp; omega)) (hne w.heap.size (by omega))).trans (Blk.after B2.out (by repeat' (first | exact Below.refl _ _ | assumption | (with_reducible refine Below.alloc ?_ ?_ _) | (with_reducible refine below_drewN ?_ _) | (with_reducible refine Below.drew ?_) | (with_reducible refine Below.setCell ?_ ?_ _) | go_size)))); have R3 := Lib.hid ((hgrow.block _ (by first | omega | (simp; omega)) (hne (w.heap.size + 1) (by omega))).trans (Blk.after R2.out (by repeat' (first | exact Below.refl _ _ | assumption | (with_reducible refine Below.alloc ?_ ?_ _) | (with_reducible refine below_drewN ?_ _) | (with_reducible refine Below.drew ?_) | (with_reducible refine Below.setCell ?_ ?_ _) | go_size)))); obtain ⟨ls3, y0, y1, -, -⟩ := Blk.two B3.out; obtain ⟨lr3, y2, y3, y4, y5⟩ := Blk.two R3.out))
    all_goals
      go_wp2_with fail
      have R4 := Lib.hid ((Blk.set R3.out 0 (.int .i64 b)).set 1 (.slice (some ⟨g, 0, none⟩) (ws.length + 1) cap))
      have hB4 : Below w.heap.size w ((w3.setCell ⟨w.heap.size + 1, 0, none⟩ (.int .i64 b)).setCell ⟨w.heap.size + 1, 1, none⟩ (.slice (some ⟨g, 0, none⟩) (ws.length + 1) cap)) := by
        have h1 := Below.step (by repeat' (first | exact Below.refl _ _ | assumption | (with_reducible refine Below.alloc ?_ ?_ _) | (with_reducible refine below_drewN ?_ _) | (with_reducible refine Below.drew ?_) | (with_reducible refine Below.setCell ?_ ?_ _) | go_size)) hb2 (by first | omega | (simp; omega)) (B := w.heap.size) (w := w1)
        have h2 := Below.grown (B := w.heap.size) (a := w1) (by first | exact h1 | exact Below.alloc h1 (by omega) _) hgrow (by first | omega | (simp; omega)) (fun q hq => by have h5 := (hown.lt q hq).1; (try simp at h5); omega)
        exact ((hB.trans h2).setCell (by simp) _).setCell (by simp) _
      have O4 : strE.Own ((w3.setCell ⟨w.heap.size + 1, 0, none⟩ (.int .i64 b)).setCell ⟨w.heap.size + 1, 1, none⟩ (.slice (some ⟨g, 0, none⟩) (ws.length + 1) cap)) w.heap.size 9 (.slice (some ⟨g, 0, none⟩) (ws.length + 1) cap) (ws ++ [t]) := Enc.Own.base (ownsRow_setCell_below (ownsRow_setCell_below hown3 (by show w.heap.size + 1 < w1.heap.size; omega) _) (by show w.heap.size + 1 < w1.heap.size; omega) _) (by omega)
      have HO4 := Lib.hid O4; clear O4 hown3
      generalize (w3.setCell ⟨w.heap.size + 1, 0, none⟩ (.int .i64 b)).setCell ⟨w.heap.size + 1, 1, none⟩ (.slice (some ⟨g, 0, none⟩) (ws.length + 1) cap) = W4 at R4 HO4 hB4 ⊢
      obtain ⟨l4, d0, d1, -, -⟩ := R4.out.two
      refine bodyPost_ret (v := .tuple #[.agg #[.int .i64 b, .slice (some ⟨g, 0, none⟩) (ws.length + 1) cap], .int .i64 0]) (by simp [results, Try.results7, go_sem, d0, d1]) rfl ?_
      unfold putB putW
      rw [HE.out, if_pos rfl, if_pos rfl]
      exact ⟨_, rfl, HO4.out, hB4⟩
  · have hk' : (k != 0) = true := by simpa using h0
    have hk2 : (k == 0) = false := by simpa using h0
    have HE : Hid (putE b ws t = k) := Lib.hid (by unfold putE; rw [hk, if_pos h0])
    have H0 := Lib.hid h0; clear h0 hk
    go_wp2_with fail
    have BR2 := Lib.hid ((BR.out.set 0 (.int .i64 0)).set 1 (.slice none 0 0))
    have hBr := (hB.setCell (p := ⟨w.heap.size + 1, 0, none⟩) (by simp) (.int .i64 0)).setCell (p := ⟨w.heap.size + 1, 1, none⟩) (by simp) (.slice none 0 0)
    generalize (w1.setCell ⟨w.heap.size + 1, 0, none⟩ (.int .i64 0)).setCell ⟨w.heap.size + 1, 1, none⟩ (.slice none 0 0) = W2 at BR2 hBr ⊢
    obtain ⟨l2, d0, d1, -, -⟩ := BR2.out.two
    refine bodyPost_ret (v := .tuple #[.agg #[.int .i64 0, .slice none 0 0], .int .i64 (k)]) (by simp [results, Try.results7, go_sem, d0, d1]) rfl ?_
    exact sender_no (by unfold putB; rw [HE.out, if_neg H0.out]) (by unfold putW; rw [HE.out, if_neg H0.out]) HE.out hBr

end Go.Proofs.Ytckjibjnplnfeaa
