/- What the closure of joint.Best does at a free choice. -/
import Derived.Test.YtlgbioidkbeanaaJo
set_option linter.unusedVariables false
set_option linter.unusedSimpArgs false
namespace Go.Proofs.Ytlgbioidkbeanaa
open Go.RowKit Go.Shelf

theorem ints_cells {no : Nat → Prop} {w : World} {o : List Int} {a : Option Addr} {L c : Nat} (h : VRel (cxA no w) (lstA intE o) (.slice a L c)) (m : Nat) (x : Int) (hi : o[m]? = some x) :
    ∃ bo oo, a = some ⟨bo, oo, none⟩ ∧ bo < w.heap.size ∧ w.cell? ⟨bo, oo + m, none⟩ = some (.int .i64 x) := by
  obtain ⟨ba, la, lc, e, hba, -, hlc⟩ := lst_open h (by rintro rfl; simp at hi)
  cases e
  refine ⟨_, _, rfl, hba, ?_⟩
  rw [← hlc m x hi 0 (.int .i64 x) (by decide) rfl]
  show w.cell? ⟨ba, la + m, none⟩ = w.cell? ⟨ba, la + (m * 1 + 0), none⟩
  rw [Nat.mul_one, Nat.add_zero]
structure JB (bL bB bS : Nat) (no no2 : Nat → Prop) (l : List (List TJointOption)) (s : List Int × Int) (W : World) : Prop where
  nl : ¬ no bL
  hl : ∃ lv, Bx W bL 22 lv ∧ VRel (cxA no W) (lstA (lstE TJointOption.E) l) lv
  hb : ∃ bv, Bx W bB 27 bv ∧ VRel (cxA no2 W) (lstA intE s.1) bv
  hs : Bx W bS 3 (.int .i64 s.2)
theorem JB.kept {bL bB bS : Nat} {no no2 : Nat → Prop} {l : List (List TJointOption)} {s : List Int × Int} {w w' : World} (h : JB bL bB bS no no2 l s w) (k : Kept w w') : JB bL bB bS no no2 l s w' := by
  obtain ⟨h0, ⟨lv, h1, h2⟩, ⟨bv, h3, h4⟩, h5⟩ := h
  exact ⟨h0, ⟨lv, h1.kept k, (k.kno _).rel h2 (lstA_clean _ _)⟩, ⟨bv, h3.kept k, (k.kno _).rel h4 (lstA_clean _ _)⟩, h5.kept k⟩
set_option maxRecDepth 100000 in
set_option maxHeartbeats 4000000 in
theorem best1_in {bL bB bS : Nat} {no no2 : Nat → Prop} (h12 : ∀ k, no k → no2 k) (hno : ∀ k, no k ↔ k = bB ∨ k = bS) (hne : bB ≠ bS) {l : List (List TJointOption)} (hl6 : l.length ≤ 6) {s r : List Int × Int} {c : List Int} {v : Value} {w : World} (hlen : c.length = l.length) (hr : VRel (cxA no2 w) (lstA intE c) v)
    (hB : JB bL bB bS no no2 l s w) (hf : frB l s c = some r) :
    Calls Try.prog 26 #[v, .pointer (some ⟨bL, 0, none⟩), .pointer (some ⟨bS, 0, none⟩), .pointer (some ⟨bB, 0, none⟩)] w fun e w' => (∃ u, e = .returned u) ∧ JB bL bB bS no no2 l r w' ∧ Kno no w w' := by
  obtain ⟨z, hz, hf⟩ := Option.bind_eq_some_iff.1 hf
  obtain ⟨a, cap, rfl⟩ := slice_len hr
  obtain ⟨sb, sl⟩ := s
  rw [hlen] at hr ⊢
  have hB0 := hB
  obtain ⟨hnl, ⟨lv, hl1, hl2⟩, ⟨bv, hb1, hb2⟩, hs1⟩ := hB
  obtain ⟨la, lc, rfl⟩ := slice_lenE hl2
  have hl0 := hl1.cell
  have hb0 := hb1.cell
  have hs0 := hs1.cell
  have f1 := hb1.frozen
  have f2 := hs1.frozen
  have HC := Lib.hid (ints_cells hr)
  have HR := Lib.hid (opts_cells hl2)
  -- what the stores leave
  have fin : JB bL bB bS no no2 l (c, z) ((w.setCell ⟨bB, 0, none⟩ (.slice a l.length cap)).setCell ⟨bS, 0, none⟩ (.int .i64 z)) ∧ Kno no w ((w.setCell ⟨bB, 0, none⟩ (.slice a l.length cap)).setCell ⟨bS, 0, none⟩ (.int .i64 z)) := by
    have hk : Kno no w ((w.setCell ⟨bB, 0, none⟩ (.slice a l.length cap)).setCell ⟨bS, 0, none⟩ (.int .i64 z)) := ((Kno.refl no w).setCell _ (.inl ((hno _).2 (.inl rfl))) _).setCell _ (.inl ((hno _).2 (.inr rfl))) _
    have hbl : bL ≠ bB := fun e => hnl ((hno _).2 (.inl e))
    have hbl2 : bL ≠ bS := fun e => hnl ((hno _).2 (.inr e))
    exact ⟨⟨hnl, ⟨_, (hl1.other hbl _).other hbl2 _, hk.rel hl2 (lstA_clean _ _)⟩, ⟨_, (hb1.set _).other hne _, (hk.mono h12).rel hr (lstA_clean _ _)⟩, (hs1.other (Ne.symm hne) _).set _⟩, hk⟩
  have FIN := Lib.hid fin
  clear fin
  generalize hL : l.length = L at *
  clear hl2 hr hb2
  go_enter Try.func26, Try.ntmps26
  go_wp2_with fail
  go_loopw [5, 10] (fun u i wr => ∃ (j : Nat) (sj : Int), j ≤ L ∧ i = .int .i64 j ∧ u = .int .i64 sj ∧ costT l j (c.drop j) sj = some z ∧ wr = w) (fun _ i => fun _ => L - (intOf i).toNat)
  case atStart => exact ⟨0, 0, Nat.zero_le _, rfl, rfl, hz, rfl⟩
  case round =>
    obtain ⟨j, sj, hj, rfl, rfl, hsum, rfl⟩ := hrel
    by_cases hlt : j < L
    · have hcj : c.drop j = c[j] :: c.drop (j + 1) := List.drop_eq_getElem_cons (by omega)
      have hcj2 : c[j]? = some c[j] := List.getElem?_eq_getElem (by omega)
      rw [hcj] at hsum
      generalize c[j] = p at hsum hcj2
      clear hcj
      simp only [costT] at hsum
      obtain ⟨o, ho, hsum1⟩ := Option.bind_eq_some_iff.1 hsum
      obtain ⟨x, hx, hsum2⟩ := Option.bind_eq_some_iff.1 hsum1
      clear hsum hsum1
      obtain ⟨κ, rfl, hκ⟩ : ∃ κ : Nat, p = (κ : Int) ∧ o[κ]? = some x := by
        unfold getI at hx
        split at hx
        · exact ⟨p.toNat, by omega, hx⟩
        · cases hx
      obtain ⟨bo, oo, ha, hbo, hc1⟩ := HC.out j _ hcj2
      subst ha
      obtain ⟨ba, off, hla, hba, oa, oc, hc2, hro⟩ := HR.out j o ho
      subst hla
      obtain ⟨xb, xo, hoa, hxb, hc3, -⟩ := opt_cells hro κ x hκ
      subst hoa
      simp only [IntWalk.i64_left] at hsum2
      have d1 : (j : Int) < (L : Int) := by omega
      have d2 : (j : Int) < (L : Int) := by omega
      have d3 : (κ : Int) < (o.length : Int) := by have := (List.getElem?_eq_some_iff.1 hκ).1; omega
      generalize o.length = M at *
      have HS := Lib.hid hsum2
      clear hsum2 hro hx ho hκ
      go_wp2_with fail
      exact ⟨⟨j + 1, _, hlt, by rw [show (j : Int) + 1 = ((j + 1 : Nat) : Int) by omega], rfl, HS.out, trivial⟩, by simp [intOf]; omega⟩
    · obtain rfl : j = L := by omega
      have hszz : sj = z := by
        rw [List.drop_eq_nil_of_le (by omega)] at hsum
        simpa [costT] using hsum
      subst hszz
      have hlt' : ¬ (j : Int) < (j : Int) := by omega
      by_cases h1 : sl < 0
      · have hd : decide (sl < 0) = true := decide_eq_true h1
        replace hf := Option.some.inj ((if_pos (show sl < 0 ∨ sj < sl from .inl h1)).symm.trans hf)
        go_wp2_with fail
        go_end0
        rw [← hf]
        exact ⟨⟨_, rfl⟩, FIN.out⟩
      · have hd : decide (sl < 0) = false := decide_eq_false h1
        by_cases h2 : sj < sl
        · have hd2 : decide (sj < sl) = true := decide_eq_true h2
          replace hf := Option.some.inj ((if_pos (show sl < 0 ∨ sj < sl from .inr h2)).symm.trans hf)
          go_wp2_with fail
          go_end0
          rw [← hf]
          exact ⟨⟨_, rfl⟩, FIN.out⟩
        · have hd2 : decide (sj < sl) = false := decide_eq_false h2
          replace hf := Option.some.inj ((if_neg (show ¬ (sl < 0 ∨ sj < sl) by omega)).symm.trans hf)
          have HB := Lib.hid hB0
          clear hB0
          go_wp2_with fail
          go_end0
          rw [← hf]
          exact ⟨⟨_, rfl⟩, HB.out, Kno.refl _ _⟩
end Go.Proofs.Ytlgbioidkbeanaa
