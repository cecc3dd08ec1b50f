/- What link.Check and Heard return, for every input. -/
import Derived.Test.YtckjibjnplnfeaaLinkStr
set_option linter.unusedVariables false
set_option linter.unusedSimpArgs false
namespace Go.Proofs.Ytckjibjnplnfeaa
open Go.RowKit
attribute [local go_sem ↓] Go.wp_at_zero Go.wp_at_succ

theorem len120 (s : ByteArray) (w : World) (hs : s.size ≤ maxLen) : Calls Try.prog 26 #[.string s] w fun e w' => e = .returned (.bool (decide (120 < s.size))) ∧ w = w' := by
  unfold maxLen at hs
  go_enter Try.func26, Try.ntmps26
  go_wp2_with fail
  go_returns
  exact ⟨ret_bool (by rw [decide_eq_decide]; omega), rfl⟩
def lchk (b : Int) (ws : List ByteArray) : Int :=
  if 32 < ws.length then 2 else if b < 1 ∨ 100000 - (ws.length : Int) < b then 4 else if (ws.any fun t => decide (120 < t.size)) = true then 2 else 0
theorem lchk_zero (b : Int) (ws : List ByteArray) : lchk b ws = 0 ↔ ws.length ≤ 32 ∧ 1 ≤ b ∧ b + ws.length ≤ 100000 ∧ ∀ t ∈ ws, t.size ≤ 120 := by
  unfold lchk
  split
  · constructor
    · intro h; omega
    · intro h; omega
  · split
    · constructor
      · intro h; omega
      · intro h; omega
    · split
      · rename_i h
        rw [List.any_eq_true] at h
        obtain ⟨t, ht, h2⟩ := h
        have := of_decide_eq_true h2
        constructor
        · intro h; omega
        · intro h; have := h.2.2.2 t ht; omega
      · rename_i h
        refine ⟨fun _ => ⟨by omega, by omega, by omega, fun t ht => ?_⟩, fun _ => rfl⟩
        by_cases h2 : t.size ≤ 120
        · exact h2
        · exact absurd (List.any_eq_true.2 ⟨t, ht, decide_eq_true (by omega)⟩) h
def StrsOk (ws : List ByteArray) : Prop := ∀ t ∈ ws, t.size ≤ maxLen
set_option maxHeartbeats 1000000 in
theorem lcheck_any (b : Int) (a : Option Addr) (c : Nat) (ws : List ByteArray) (w : World) (hs : strE.Slc w a c ws) (hok : StrsOk ws) :
    Calls Try.prog 16 #[.agg #[.int .i64 b, .slice a ws.length c]] w fun e w' => e = .returned (.int .i64 (lchk b ws)) ∧ Below w.heap.size w w' := by
  generalize hr : lchk b ws = r
  have HR := Lib.hid hr; clear hr
  have HS := Lib.hid hs; have HOk := Lib.hid hok; clear hs hok
  have hmx := HS.out.max
  unfold maxLen at hmx
  generalize hn : ws.length = n at hmx ⊢
  have HN := Lib.hid hn; clear hn
  go_enter Try.func16, Try.ntmps16
  by_cases h1 : 32 < n
  · have hd : decide (32 < n) = true := by simpa using h1
    have HV : Hid (r = 2) := Lib.hid (by rw [← HR.out, lchk, HN.out, if_pos h1])
    go_wp2_with fail
    go_returns
    exact ⟨ret_int HV.out.symm, by go_grown⟩
  have hd : decide (32 < n) = false := by simpa using h1
  by_cases h2 : b < 1 ∨ 100000 - (n : Int) < b
  · have HV : Hid (r = 4) := Lib.hid (by rw [← HR.out, lchk, HN.out, if_neg h1, if_pos h2])
    by_cases h3 : b < 1
    · clear h2
      go_wp2_with fail
      go_returns
      exact ⟨ret_int HV.out.symm, by go_grown⟩
    · have h4 : 100000 - (n : Int) < b := by omega
      clear h2
      go_wp2_with fail
      go_returns
      exact ⟨ret_int HV.out.symm, by go_grown⟩
  have h3 : 1 ≤ b := by omega
  have h4 : b ≤ 100000 - (n : Int) := by omega
  have HV : Hid (r = if (ws.any fun t => decide (120 < t.size)) = true then 2 else 0) := Lib.hid (by rw [← HR.out, lchk, HN.out, if_neg h1, if_neg h2])
  clear h2
  have hcf := fun W (hW : strE.Slc W a c ws) => cf_strlen a c ws (fun t => decide (120 < t.size)) W hW (fun i hi W2 hW2 => (len120 (el ws i) W2 (HOk.out _ (el_mem hi))).mono fun e w' h => ⟨h.1, h.2 ▸ Below.refl _ _⟩)
  rw [HN.out] at hcf
  have HCF := Lib.hid hcf; clear hcf
  go_wp2_with fail
  refine (HCF.out _ (HS.out.after (by repeat' (first | exact Below.refl _ _ | assumption | (with_reducible refine Below.alloc ?_ ?_ _) | (with_reducible refine below_drewN ?_ _) | (with_reducible refine Below.drew ?_) | (with_reducible refine Below.setCell ?_ ?_ _) | go_size)))).mono ?_
  rintro e w1 ⟨rfl, hb⟩
  have hB : Below w.heap.size w w1 := Below.step (by repeat' (first | exact Below.refl _ _ | assumption | (with_reducible refine Below.alloc ?_ ?_ _) | (with_reducible refine below_drewN ?_ _) | (with_reducible refine Below.drew ?_) | (with_reducible refine Below.setCell ?_ ?_ _) | go_size)) hb (by go_size)
  clear hb
  have hv := HV.out
  cases h5 : ws.any fun t => decide (120 < t.size) with
  | true =>
    rw [h5, if_pos rfl] at hv
    have HV2 := Lib.hid hv; clear hv h5
    go_wp2_with fail
    go_returns
    exact ⟨ret_int HV2.out.symm, hB⟩
  | false =>
    rw [h5, if_neg (by decide)] at hv
    have HV2 := Lib.hid hv; clear hv h5
    go_wp2_with fail
    go_returns
    exact ⟨ret_int HV2.out.symm, hB⟩

/- a sender is returned -/
def Sender (w : World) (er b : Int) (ws : List ByteArray) (e : Ending) (w' : World) : Prop :=
  ∃ v, e = .returned (.tuple #[.agg #[.int .i64 b, v], .int .i64 er]) ∧ strE.Own w' w.heap.size 9 v ws ∧ Below w.heap.size w w'
def heardE (b : Int) (ws : List ByteArray) (x : Int) : Int := if lchk b ws ≠ 0 then lchk b ws else if x < 1 ∨ b + ws.length < x then 4 else 0
def heardK (b x : Int) : Nat := (x - b).toNat
def heardB (b : Int) (ws : List ByteArray) (x : Int) : Int := if heardE b ws x = 0 then b + heardK b x else 0
def heardW (b : Int) (ws : List ByteArray) (x : Int) : List ByteArray := if heardE b ws x = 0 then ws.drop (heardK b x) else []
theorem sender_no {w w' : World} {er er' b : Int} {ws : List ByteArray} (hb : b = 0) (hw : ws = []) (he : er = er') (hB : Below w.heap.size w w') : Sender w er b ws (.returned (.tuple #[.agg #[.int .i64 0, .slice none 0 0], .int .i64 er'])) w' := by
  subst hb hw he; exact ⟨_, rfl, Enc.Own.nil _ _ _ _, hB⟩
set_option maxRecDepth 100000 in
set_option maxHeartbeats 2000000 in
theorem heard_any (b : Int) (a : Option Addr) (c : Nat) (ws : List ByteArray) (x : Int) (w : World) (hs : strE.Slc w a c ws) (hok : StrsOk ws) :
    Calls Try.prog 12 #[.agg #[.int .i64 b, .slice a ws.length c], .int .i64 x] w (Sender w (heardE b ws x) (heardB b ws x) (heardW b ws x)) := by
  have HS := Lib.hid hs; have HOk := Lib.hid hok; clear hs hok
  have hlc := HS.out.1
  have hmx := HS.out.2.1
  unfold maxLen at hmx
  go_enter Try.func12, Try.ntmps12
  go_wp2_with fail
  refine (lcheck_any b a c ws _ (HS.out.after (by repeat' (first | exact Below.refl _ _ | assumption | (with_reducible refine Below.alloc ?_ ?_ _) | (with_reducible refine below_drewN ?_ _) | (with_reducible refine Below.drew ?_) | (with_reducible refine Below.setCell ?_ ?_ _) | go_size))) HOk.out).mono ?_
  rintro e w1 ⟨rfl, hb⟩
  have hB : Below w.heap.size w w1 := Below.step (by repeat' (first | exact Below.refl _ _ | assumption | (with_reducible refine Below.alloc ?_ ?_ _) | (with_reducible refine below_drewN ?_ _) | (with_reducible refine Below.drew ?_) | (with_reducible refine Below.setCell ?_ ?_ _) | go_size)) hb (by go_size)
  have hz := hb.size
  simp only [World.size_alloc] at hz
  have BS := Lib.hid (Blk.after ((Blk.new w (.cells #[.int .i64 b, .slice a ws.length c] 26)).alloc (.cells #[.int .i64 0, .slice none 0 0] 26)) hb)
  have BR := Lib.hid (Blk.after (Blk.newAt (w.alloc (.cells #[.int .i64 b, .slice a ws.length c] 26)) (.cells #[.int .i64 0, .slice none 0 0] 26) (w.heap.size + 1) (by simp)) hb)
  clear hb
  obtain ⟨ls, cs0, cs1, -, -⟩ := BS.out.two
  obtain ⟨lr, cr0, cr1, fr0, fr1⟩ := BR.out.two
  generalize hk : lchk b ws = k
  by_cases h0 : k = 0
  · subst h0
    obtain ⟨z1, z2, z3, -⟩ := (lchk_zero b ws).1 hk
    have HK := Lib.hid hk; clear hk
    by_cases hx : x < 1 ∨ b + ws.length < x
    · have HE : Hid (heardE b ws x = 4) := Lib.hid (by unfold heardE; rw [HK.out, if_neg (by decide), if_pos hx])
      by_cases hx1 : x < 1
      · clear hx
        go_wp2_with fail
        have BR2 := Lib.hid ((BR.out.set 0 (.int .i64 0)).set 1 (.slice none 0 0))
        have hBr := (hB.setCell (p := ⟨w.heap.size + 1, 0, none⟩) (by simp) (.int .i64 0)).setCell (p := ⟨w.heap.size + 1, 1, none⟩) (by simp) (.slice none 0 0)
        generalize (w1.setCell ⟨w.heap.size + 1, 0, none⟩ (.int .i64 0)).setCell ⟨w.heap.size + 1, 1, none⟩ (.slice none 0 0) = W2 at BR2 hBr ⊢
        obtain ⟨l2, d0, d1, -, -⟩ := BR2.out.two
        refine bodyPost_ret (v := .tuple #[.agg #[.int .i64 0, .slice none 0 0], .int .i64 4]) (by simp [results, Try.results12, go_sem, d0, d1]) rfl ?_
        exact sender_no (by unfold heardB; rw [HE.out]; rfl) (by unfold heardW; rw [HE.out]; rfl) HE.out hBr
      · have hx2 : b + ws.length < x := by omega
        clear hx
        go_wp2_with fail
        have BR2 := Lib.hid ((BR.out.set 0 (.int .i64 0)).set 1 (.slice none 0 0))
        have hBr := (hB.setCell (p := ⟨w.heap.size + 1, 0, none⟩) (by simp) (.int .i64 0)).setCell (p := ⟨w.heap.size + 1, 1, none⟩) (by simp) (.slice none 0 0)
        generalize (w1.setCell ⟨w.heap.size + 1, 0, none⟩ (.int .i64 0)).setCell ⟨w.heap.size + 1, 1, none⟩ (.slice none 0 0) = W2 at BR2 hBr ⊢
        obtain ⟨l2, d0, d1, -, -⟩ := BR2.out.two
        refine bodyPost_ret (v := .tuple #[.agg #[.int .i64 0, .slice none 0 0], .int .i64 4]) (by simp [results, Try.results12, go_sem, d0, d1]) rfl ?_
        exact sender_no (by unfold heardB; rw [HE.out]; rfl) (by unfold heardW; rw [HE.out]; rfl) HE.out hBr
    · have HE : Hid (heardE b ws x = 0) := Lib.hid (by unfold heardE; rw [HK.out, if_neg (by decide), if_neg hx])
      have hx1 : 1 ≤ x := by omega
      have hx2 : x ≤ b + ws.length := by omega
      clear hx
      obtain ⟨k, hk1, hk2, hk3⟩ : ∃ k : Nat, k ≤ ws.length ∧ heardK b x = k ∧ max 0 (x - b) = (k : Int) := ⟨heardK b x, by unfold heardK; omega, rfl, by unfold heardK; omega⟩
      have HK2 := Lib.hid hk2
      have HK3 := Lib.hid hk3
      clear hk2 hk3
      obtain ⟨D, hD⟩ : ∃ D : List ByteArray, D = ws.drop k := ⟨_, rfl⟩
      have key : ∀ y : Int, y = (k : Int) → ∃ (A : Option Addr) (N C : Nat), Hid (strE.Slc w A C D) ∧ (∀ wx, (Instr.slice 22 (.slice a ws.length c) (some (.int .i64 y)) none none).run Try.prog wx = .ok (.slice A N C) wx) ∧ Hid (∀ W, strE.Slc W A C D → Calls Try.prog 23 #[.slice A N C] W fun e w' => ∃ v, e = .returned v ∧ strE.Own w' W.heap.size 9 v D ∧ Below W.heap.size W w') := by
        intro y hy
        subst hD
        refine ⟨cutA a c k 1, ws.length - k, c - k, Lib.hid (HS.out.cut k hk1), fun wx => run_cut Try.underlying22 (fun _ => by kernel_rfl) a ws.length c k hk1 y hy wx, Lib.hid (fun W hW => ?_)⟩
        have := cloneL_str (cutA a c k 1) (c - k) (ws.drop k) W hW (by rw [List.length_drop]; omega)
        rw [List.length_drop] at this
        exact this.mono fun e w' ⟨v, h1, h2, h3, _⟩ => ⟨v, h1, h2, h3⟩
      have fin : ∀ (v : Value) (W2 : World), strE.Own W2 w.heap.size 9 v D → Below w.heap.size w W2 → Sender w (heardE b ws x) (heardB b ws x) (heardW b ws x) (.returned (.tuple #[.agg #[.int .i64 (b + k), v], .int .i64 0])) W2 := by
        intro v W2 h1 h2
        subst hD
        unfold heardB heardW
        rw [HE.out, if_pos rfl, if_pos rfl, HK2.out]
        exact ⟨v, rfl, h1, h2⟩
      have HFin := Lib.hid fin; clear fin hD
      rcases (by omega : b < x ∨ x < b ∨ x = b) with hxb | hxb | hxb
      · obtain ⟨A, N, C, HSC, hcut, HCL⟩ := key (x - b) (by have := HK3.out; omega)
        clear key
        have g1 : IntKind.i64.wrap (b + (x - b)) = b + (x - b) := IntWalk.i64_in _ (by omega)
        have HX : Hid (b + (x - b) = b + k) := Lib.hid (by have := HK3.out; omega)
        go_wp2_with fail
        go_region_with ((go_at_call 23; refine (HCL.out _ (HSC.out.below (B := w.heap.size) (hB.trans (by repeat' (first | exact Below.refl _ _ | assumption | (with_reducible refine Below.alloc ?_ ?_ _) | (with_reducible refine below_drewN ?_ _) | (with_reducible refine Below.drew ?_) | (with_reducible refine Below.setCell ?_ ?_ _) | go_size))) (Nat.le_refl _))).mono ?_; rintro e w2 ⟨v, rfl, hown, hb2⟩; obtain ⟨a2, c2, rfl, -⟩ := hown.slc; have B2 := Lib.hid (Blk.after BS.out.drew hb2); have R2 := Lib.hid (Blk.after BR.out.drew hb2); obtain ⟨ls2, cs20, cs21, -, -⟩ := B2.out.two; obtain ⟨lr2, cr20, cr21, fr20, fr21⟩ := R2.out.two))
        all_goals
          go_wp2_with fail
          have R3 := Lib.hid ((R2.out.set 0 (.int .i64 (b + (x - b)))).set 1 (.slice a2 D.length c2))
          have hB3 : Below w.heap.size w ((w2.setCell ⟨w.heap.size + 1, 0, none⟩ (.int .i64 (b + (x - b)))).setCell ⟨w.heap.size + 1, 1, none⟩ (.slice a2 D.length c2)) := ((hB.trans ((Below.drew (Below.refl w.heap.size w1)).trans (hb2.mono (by show w.heap.size ≤ w1.heap.size; omega)))).setCell (by simp) _).setCell (by simp) _
          have O3 : strE.Own ((w2.setCell ⟨w.heap.size + 1, 0, none⟩ (.int .i64 (b + (x - b)))).setCell ⟨w.heap.size + 1, 1, none⟩ (.slice a2 D.length c2)) w.heap.size 9 (.slice a2 D.length c2) D := (Enc.Own.base (ownsRow_setCell_below (ownsRow_setCell_below hown (by show w.heap.size + 1 < w1.heap.size; omega) _) (by show w.heap.size + 1 < w1.heap.size; omega) _) (by show w.heap.size ≤ w1.heap.size; omega))
          have HO3 := Lib.hid O3; clear O3 hown
          generalize (w2.setCell ⟨w.heap.size + 1, 0, none⟩ (.int .i64 (b + (x - b)))).setCell ⟨w.heap.size + 1, 1, none⟩ (.slice a2 D.length c2) = W3 at R3 HO3 hB3 ⊢
          obtain ⟨l3, d0, d1, -, -⟩ := R3.out.two
          refine bodyPost_ret (v := .tuple #[.agg #[.int .i64 (b + (x - b)), .slice a2 D.length c2], .int .i64 0]) (by simp [results, Try.results12, go_sem, d0, d1]) rfl ?_
          have hf := HFin.out _ W3 HO3.out hB3
          rw [← HX.out] at hf
          exact hf
      · obtain ⟨A, N, C, HSC, hcut, HCL⟩ := key 0 (by have := HK3.out; omega)
        clear key
        have g1 : IntKind.i64.wrap b = b := IntWalk.i64_in _ (by omega)
        have HX : Hid (b = b + k) := Lib.hid (by have := HK3.out; omega)
        go_wp2_with fail
        go_region_with ((go_at_call 23; refine (HCL.out _ (HSC.out.below (B := w.heap.size) (hB.trans (by repeat' (first | exact Below.refl _ _ | assumption | (with_reducible refine Below.alloc ?_ ?_ _) | (with_reducible refine below_drewN ?_ _) | (with_reducible refine Below.drew ?_) | (with_reducible refine Below.setCell ?_ ?_ _) | go_size))) (Nat.le_refl _))).mono ?_; rintro e w2 ⟨v, rfl, hown, hb2⟩; obtain ⟨a2, c2, rfl, -⟩ := hown.slc; have B2 := Lib.hid (Blk.after BS.out.drew hb2); have R2 := Lib.hid (Blk.after BR.out.drew hb2); obtain ⟨ls2, cs20, cs21, -, -⟩ := B2.out.two; obtain ⟨lr2, cr20, cr21, fr20, fr21⟩ := R2.out.two))
        all_goals
          go_wp2_with fail
          have R3 := Lib.hid ((R2.out.set 0 (.int .i64 (b))).set 1 (.slice a2 D.length c2))
          have hB3 : Below w.heap.size w ((w2.setCell ⟨w.heap.size + 1, 0, none⟩ (.int .i64 (b))).setCell ⟨w.heap.size + 1, 1, none⟩ (.slice a2 D.length c2)) := ((hB.trans ((Below.drew (Below.refl w.heap.size w1)).trans (hb2.mono (by show w.heap.size ≤ w1.heap.size; omega)))).setCell (by simp) _).setCell (by simp) _
          have O3 : strE.Own ((w2.setCell ⟨w.heap.size + 1, 0, none⟩ (.int .i64 (b))).setCell ⟨w.heap.size + 1, 1, none⟩ (.slice a2 D.length c2)) w.heap.size 9 (.slice a2 D.length c2) D := (Enc.Own.base (ownsRow_setCell_below (ownsRow_setCell_below hown (by show w.heap.size + 1 < w1.heap.size; omega) _) (by show w.heap.size + 1 < w1.heap.size; omega) _) (by show w.heap.size ≤ w1.heap.size; omega))
          have HO3 := Lib.hid O3; clear O3 hown
          generalize (w2.setCell ⟨w.heap.size + 1, 0, none⟩ (.int .i64 (b))).setCell ⟨w.heap.size + 1, 1, none⟩ (.slice a2 D.length c2) = W3 at R3 HO3 hB3 ⊢
          obtain ⟨l3, d0, d1, -, -⟩ := R3.out.two
          refine bodyPost_ret (v := .tuple #[.agg #[.int .i64 (b), .slice a2 D.length c2], .int .i64 0]) (by simp [results, Try.results12, go_sem, d0, d1]) rfl ?_
          have hf := HFin.out _ W3 HO3.out hB3
          rw [← HX.out] at hf
          exact hf
      · obtain ⟨A, N, C, HSC, hcut, HCL⟩ := key 0 (by have := HK3.out; omega)
        clear key
        subst hxb
        have g1 : IntKind.i64.wrap x = x := IntWalk.i64_in _ (by omega)
        have HX : Hid (x = x + k) := Lib.hid (by have := HK3.out; omega)
        go_wp2_with fail
        go_region_with ((go_at_call 23; refine (HCL.out _ (HSC.out.below (B := w.heap.size) (hB.trans (by repeat' (first | exact Below.refl _ _ | assumption | (with_reducible refine Below.alloc ?_ ?_ _) | (with_reducible refine below_drewN ?_ _) | (with_reducible refine Below.drew ?_) | (with_reducible refine Below.setCell ?_ ?_ _) | go_size))) (Nat.le_refl _))).mono ?_; rintro e w2 ⟨v, rfl, hown, hb2⟩; obtain ⟨a2, c2, rfl, -⟩ := hown.slc; have B2 := Lib.hid (Blk.after BS.out.drew hb2); have R2 := Lib.hid (Blk.after BR.out.drew hb2); obtain ⟨ls2, cs20, cs21, -, -⟩ := B2.out.two; obtain ⟨lr2, cr20, cr21, fr20, fr21⟩ := R2.out.two))
        all_goals
          go_wp2_with fail
          have R3 := Lib.hid ((R2.out.set 0 (.int .i64 (x))).set 1 (.slice a2 D.length c2))
          have hB3 : Below w.heap.size w ((w2.setCell ⟨w.heap.size + 1, 0, none⟩ (.int .i64 (x))).setCell ⟨w.heap.size + 1, 1, none⟩ (.slice a2 D.length c2)) := ((hB.trans ((Below.drew (Below.refl w.heap.size w1)).trans (hb2.mono (by show w.heap.size ≤ w1.heap.size; omega)))).setCell (by simp) _).setCell (by simp) _
          have O3 : strE.Own ((w2.setCell ⟨w.heap.size + 1, 0, none⟩ (.int .i64 (x))).setCell ⟨w.heap.size + 1, 1, none⟩ (.slice a2 D.length c2)) w.heap.size 9 (.slice a2 D.length c2) D := (Enc.Own.base (ownsRow_setCell_below (ownsRow_setCell_below hown (by show w.heap.size + 1 < w1.heap.size; omega) _) (by show w.heap.size + 1 < w1.heap.size; omega) _) (by show w.heap.size ≤ w1.heap.size; omega))
          have HO3 := Lib.hid O3; clear O3 hown
          generalize (w2.setCell ⟨w.heap.size + 1, 0, none⟩ (.int .i64 (x))).setCell ⟨w.heap.size + 1, 1, none⟩ (.slice a2 D.length c2) = W3 at R3 HO3 hB3 ⊢
          obtain ⟨l3, d0, d1, -, -⟩ := R3.out.two
          refine bodyPost_ret (v := .tuple #[.agg #[.int .i64 (x), .slice a2 D.length c2], .int .i64 0]) (by simp [results, Try.results12, go_sem, d0, d1]) rfl ?_
          have hf := HFin.out _ W3 HO3.out hB3
          rw [← HX.out] at hf
          exact hf
  · have hk' : (k != 0) = true := by simpa using h0
    have hk2 : (k == 0) = false := by simpa using h0
    have HE : Hid (heardE b ws x = k) := Lib.hid (by unfold heardE; rw [hk, if_pos h0])
    have H0 := Lib.hid h0; clear h0 hk
    go_wp2_with fail
    have BR2 := Lib.hid ((BR.out.set 0 (.int .i64 0)).set 1 (.slice none 0 0))
    have hBr := (hB.setCell (p := ⟨w.heap.size + 1, 0, none⟩) (by simp) (.int .i64 0)).setCell (p := ⟨w.heap.size + 1, 1, none⟩) (by simp) (.slice none 0 0)
    generalize (w1.setCell ⟨w.heap.size + 1, 0, none⟩ (.int .i64 0)).setCell ⟨w.heap.size + 1, 1, none⟩ (.slice none 0 0) = W2 at BR2 hBr ⊢
    obtain ⟨l2, d0, d1, -, -⟩ := BR2.out.two
    refine bodyPost_ret (v := .tuple #[.agg #[.int .i64 0, .slice none 0 0], .int .i64 k]) (by simp [results, Try.results12, go_sem, d0, d1]) rfl ?_
    exact sender_no (by unfold heardB; rw [HE.out, if_neg H0.out]) (by unfold heardW; rw [HE.out, if_neg H0.out]) HE.out hBr

end Go.Proofs.Ytckjibjnplnfeaa
