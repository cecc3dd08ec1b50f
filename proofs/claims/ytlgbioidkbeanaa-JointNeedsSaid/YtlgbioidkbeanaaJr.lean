/- What the closures of joint.Refute do. -/
import Derived.Test.YtlgbioidkbeanaaKo
import Derived.Deep.RegionLaw
set_option linter.unusedVariables false
set_option linter.unusedSimpArgs false
namespace Go.Proofs.Ytlgbioidkbeanaa
open Go.RowKit Go.Shelf

structure JR (bI bO base : Nat) (no2 : Nat → Prop) (s : Bool × List TJointRefuted) (W : World) : Prop where
  hi : Bx W bI 4 (.bool s.1)
  ho : ∃ ov cells, Bx W bO 31 ov ∧ W.ownsRow base 49 2 ov s.2.length cells ∧ Rels (cxA (nT base no2 W) W) (encs TJointRefuted.E s.2) cells
theorem own_kept {w w' : World} {base : Nat} {e : TypeId} {sz : Nat} {v : Value} {k : Nat} {xs : List Value} (h : w.ownsRow base e sz v k xs) (hk : Kept w w') : w'.ownsRow base e sz v k xs := by
  refine ⟨h.1, ?_⟩
  rcases h.2 with q | ⟨g, cap, cur, q1, q2, q3, q4⟩
  · exact .inl q
  · exact .inr ⟨g, cap, cur, q1, q2, (hk.blk g (heap_lt q3)).trans q3, q4⟩
theorem JR.kept {bI bO base : Nat} {no2 : Nat → Prop} {s : Bool × List TJointRefuted} {w w' : World} (h : JR bI bO base no2 s w) (k : Kept w w') : JR bI bO base no2 s w' := by
  obtain ⟨h1, ov, cells, h2, h3, h4⟩ := h
  exact ⟨h1.kept k, ov, cells, h2.kept k, own_kept h3 k, (k.ko base no2).rels h4 (encs_clean _)⟩
set_option maxRecDepth 100000 in
theorem refute1_in {bI bO base : Nat} {no no2 : Nat → Prop} (h12 : ∀ k, no k → no2 k) (hno : ∀ k, no k ↔ k = bI ∨ k = bO) (hne : bI ≠ bO) (hbI : bI < base) {s : Bool × List TJointRefuted} {v : Value} {w : World} (hB : JR bI bO base no2 s w) :
    Calls Try.prog 28 #[v, .pointer (some ⟨bI, 0, none⟩)] w fun e w' => (∃ u, e = .returned u) ∧ JR bI bO base no2 (true, s.2) w' ∧ Ko base no w w' := by
  obtain ⟨h1, ov, cells, h2, h3, h4⟩ := hB
  have c1 := h1.cell
  have f1 := h1.frozen
  have fin : JR bI bO base no2 (true, s.2) (w.setCell ⟨bI, 0, none⟩ (.bool true)) ∧ Ko base no w (w.setCell ⟨bI, 0, none⟩ (.bool true)) := by
    have hk : Kno no w (w.setCell ⟨bI, 0, none⟩ (.bool true)) := (Kno.refl no w).setCell _ (.inl ((hno _).2 (.inl rfl))) _
    refine ⟨⟨h1.set _, ov, cells, h2.other (Ne.symm hne) _, ?_, ((hk.ko base).mono h12).rels h4 (encs_clean _)⟩, hk.ko base⟩
    refine ⟨h3.1, ?_⟩
    rcases h3.2 with q | ⟨g, cap, cur, q1, q2, q3, q4⟩
    · exact .inl q
    · refine .inr ⟨g, cap, cur, q1, q2, ?_, q4⟩
      rw [Below.heap_setCell _ _ _ _ (by show g ≠ bI; omega)]
      exact q3
  have FIN := Lib.hid fin
  clear fin h2 h3 h4
  go_enter Try.func28, Try.ntmps28
  go_wp2_with fail
  go_end0
  exact ⟨⟨_, rfl⟩, FIN.out⟩
theorem infoR : (Try.prog.info? 49).map (fun i => (i.zero.map (fun z => z.cells.size), i.size, i.bytes)) = some (some 2, 2, 32) := by kernel_rfl
theorem new2 (w : World) (x y : Value) (T : TypeId) : ∀ j u, ([x, y] : List Value)[j]? = some u → (w.alloc (.cells #[x, y] T)).cell? ((⟨w.heap.size, 0, none⟩ : Addr).add j) = some u := by
  intro j u hu
  have hh : (w.alloc (.cells #[x, y] T)).heap[w.heap.size]? = some (.cells #[x, y] T (0, 0)) := World.alloc_heap_new w _
  rw [show (⟨w.heap.size, 0, none⟩ : Addr).add j = ⟨w.heap.size, j, none⟩ by unfold Addr.add; split <;> simp_all]
  match j, hu with
  | 0, hu => simp only [World.cell?, hh]; simpa using hu
  | 1, hu => simp only [World.cell?, hh]; simpa using hu
  | j + 2, hu => simp at hu
theorem own_slice {w : World} {base : Nat} {e : TypeId} {sz : Nat} {v : Value} {k : Nat} {xs : List Value} (h : w.ownsRow base e sz v k xs) : ∃ a cap, v = .slice a k cap := by
  rcases h.2 with ⟨q1, q2⟩ | ⟨g, cap, cur, q1, -⟩
  · exact ⟨none, 0, by rw [q1, q2]⟩
  · exact ⟨_, _, q1⟩
theorem own_nT {w : World} {base : Nat} {no : Nat → Prop} {v : Value} {k : Nat} {xs : List Value} (h : w.ownsRow base 49 2 v k xs) : ∀ b, v.ownBlock = some b → nT base no w b := by
  intro b hb
  rcases h.2 with ⟨q, -⟩ | ⟨g, c3, cur, q, q2, q3, -⟩
  · rw [q] at hb; cases hb
  · rw [q] at hb; cases hb; exact .inr ⟨q2, cur, _, q3⟩
theorem ko_grown {w w' : World} {base : Nat} {no : Nat → Prop} {row : Option Nat} (hg : w.grownBy w' row) (hr : ∀ b, row = some b → nT base no w b) (hd : w.drawn ≤ w'.drawn) : Ko base no w w' :=
  ⟨hg.os, hg.tape, hg.output, hg.size, fun k hk hb => hg.block k hk (fun e => hb (hr k e.symm)), dr_le hd⟩
theorem push_fin {bI bO base : Nat} {no no2 : Nat → Prop} (h12 : ∀ k, no k → no2 k) (hno : ∀ k, no k ↔ k = bI ∨ k = bO) (hne : bI ≠ bO) (hbI : bI < base) (hbO : bO < base) {b0 : Bool} {L : List TJointRefuted} {c : List Int} {i : Int} {w w2 w3 : World} {ov v2 v3 : Value} {cells : List Value} {o : Obj}
    (hn : ∀ b, no2 b → b < w.heap.size) (h1 : Bx w bI 4 (.bool b0)) (h2 : Bx w bO 31 ov) (h3 : w.ownsRow base 49 2 ov L.length cells) (h4 : Rels (cxA (nT base no2 w) w) (encs TJointRefuted.E L) cells)
    (hk2 : Kept w w2) {bb : Nat} (hbb : w.heap.size ≤ bb) (hrow2 : w2.ownsRow bb 3 1 v2 c.length (c.map (Value.int .i64))) (hown3 : w3.ownsRow base 49 2 v3 (L.length + 1) (cells ++ [v2, .int .i64 i])) (hg : (w2.alloc o).grownBy w3 ov.ownBlock) (hd : w2.drawn ≤ w3.drawn) :
    (w3.cell? ⟨bO, 0, none⟩ = some ov ∧ w3.frozen? ⟨bO, 0, none⟩ = false) ∧ JR bI bO base no2 (b0, L ++ [⟨c, i⟩]) (w3.setCell ⟨bO, 0, none⟩ v3) ∧ Ko base no w (w3.setCell ⟨bO, 0, none⟩ v3) := by
  have hown2 : (w2.alloc o).ownsRow base 49 2 ov L.length cells := (own_kept h3 hk2).alloc _
  have hko : ∀ no : Nat → Prop, Ko base no w2 w3 := fun no => ((Kept.alloc w2 o).ko base no).trans (ko_grown hg (own_nT hown2) hd)
  have hnI : ∀ q : Nat → Prop, bI < w2.heap.size := fun _ => Nat.lt_of_lt_of_le (heap_lt h1) hk2.size
  have hnO : bO < w2.heap.size := Nat.lt_of_lt_of_le (heap_lt h2) hk2.size
  have e1 : Bx w3 bI 4 (.bool b0) := ((hko (fun _ => False)).old (hnI no) hbI (fun h => h)).trans (h1.kept hk2)
  have e2 : Bx w3 bO 31 ov := ((hko (fun _ => False)).old hnO hbO (fun h => h)).trans (h2.kept hk2)
  have hset : ∀ no : Nat → Prop, no bO → Ko base no w3 (w3.setCell ⟨bO, 0, none⟩ v3) := fun no h => ((Kno.refl no w3).setCell ⟨bO, 0, none⟩ (.inl h) v3).ko base
  have r2 : Rels (cxA (nT base no2 w2) w2) (encs TJointRefuted.E (L ++ [⟨c, i⟩])) (cells ++ [v2, .int .i64 i]) := by
    have e : encs TJointRefuted.E (L ++ [⟨c, i⟩]) = encs TJointRefuted.E L ++ [lstA intE c, intA i] := by simp [encs, TJointRefuted.E]
    rw [e]
    exact ((hk2.ko base no2).rels h4 (encs_clean _)).append (.cons (row_relT (fun b hb => Nat.lt_of_lt_of_le (hn b hb) hbb) hrow2) (.cons (.sc _ rfl) .nil))
  refine ⟨⟨e2.cell, e2.frozen⟩, ⟨e1.other hne _, v3, _, e2.set _, ?_, (((hko no2).trans (hset no2 (h12 _ ((hno _).2 (.inr rfl))))).rels r2 (encs_clean _))⟩, ((hk2.ko base no).trans (hko no)).trans (hset no ((hno _).2 (.inr rfl)))⟩
  have hl : (L ++ [(⟨c, i⟩ : TJointRefuted)]).length = L.length + 1 := by simp
  rw [hl]
  refine ⟨hown3.1, ?_⟩
  rcases hown3.2 with q | ⟨g, cap, cur, q1, q2, q3, q4⟩
  · exact .inl q
  · refine .inr ⟨g, cap, cur, q1, q2, ?_, q4⟩
    rw [Below.heap_setCell _ _ _ _ (by show g ≠ bO; omega)]
    exact q3
set_option maxRecDepth 100000 in
set_option maxHeartbeats 4000000 in
theorem refute2_in {bI bO base : Nat} {no no2 : Nat → Prop} (h12 : ∀ k, no k → no2 k) (hno : ∀ k, no k ↔ k = bI ∨ k = bO) (hne : bI ≠ bO) (hbI : bI < base) (hbO : bO < base) {s r : Bool × List TJointRefuted} {c : List Int} {i : Int} {v : Value} {w : World} (hn : ∀ b, no2 b → b < w.heap.size) (hbase : base ≤ w.heap.size) (hc6 : c.length ≤ 1000) (hr : VRel (cxA (nT base no2 w) w) (lstA intE c) v) (hB : JR bI bO base no2 s w) (hf : rfB s c i = some r) :
    Calls Try.prog 29 #[v, .int .i64 i, .pointer (some ⟨bO, 0, none⟩)] w fun e w' => (∃ u, e = .returned u) ∧ JR bI bO base no2 r w' ∧ Ko base no w w' := by
  unfold rfB at hf
  split at hf
  case isFalse => cases hf
  rename_i hlen
  cases hf
  obtain ⟨i0, hi, hzz⟩ := Option.map_eq_some_iff.1 infoR
  simp only [Prod.mk.injEq] at hzz
  obtain ⟨hz0, hz1, hz2⟩ := hzz
  obtain ⟨z0, hz0, hzc⟩ := Option.map_eq_some_iff.1 hz0
  obtain ⟨h1, ov, cells, h2, h3, h4⟩ := hB
  have hclone : ∀ W, Kept w W → Calls Try.prog 30 #[v] W fun e w' => ∃ v', e = .returned v' ∧ Kept W w' ∧ w'.ownsRow W.heap.size 3 1 v' c.length (c.map (Value.int .i64)) := fun W hk => callsIn_wide.1 (clone_row ((hk.ko base no2).rel hr (lstA_clean _ _)) hc6 0)
  have b0 := h2.cell
  obtain ⟨sb, sl⟩ := s
  have hlen : sl.length ≤ 1000000 := hlen
  have hown : ∀ W o, Kept w W → (W.alloc o).ownsRow base 49 2 ov sl.length cells := fun W o hk => (own_kept h3 hk).alloc _
  go_enter Try.func29, Try.ntmps29
  go_wp2_with fail
  go_region_law (first
    | (go_simp; go_at_call 30; refine (hclone _ (Kept.refl w).drew).mono ?_; rintro e w2 ⟨v2, rfl, hk2, hrow2⟩; obtain ⟨ca, cc, rfl⟩ := own_slice hrow2; have b2 := (h2.kept ((Kept.refl w).drew.trans hk2)).cell; have b3 := ((h2.kept ((Kept.refl w).drew.trans hk2)).alloc (.cells #[.slice ca c.length cc, .int .i64 i] 49)).cell)
    | (refine step_append_d rfl _ _ 31 rfl base 49 i0 z0 2 32 Try.underlying31 hi hz0 hz1 hz2 hzc (by decide) ov sl.length cells (by rfl) (hown w2 _ ((Kept.refl w).drew.trans hk2)) ⟨w2.heap.size, 0, none⟩ 1 1 [.slice ca c.length cc, .int .i64 i] (by rfl) rfl (new2 _ _ _ _) (by intro u hu; simp at hu; rcases hu with rfl | rfl <;> rfl) (by simp only [maxLen]; omega) (by omega) (by have := hk2.size; have e9 : w.drew.heap.size = w.heap.size := rfl; simp; omega) ?_; intro v3 w3 hown3 hgrow3 hdr3; obtain ⟨⟨x1, x2⟩, x3⟩ := push_fin (b0 := sb) (c := c) (i := i) h12 hno hne hbI hbO hn h1 h2 h3 h4 ((Kept.refl w).drew.trans hk2) (bb := w.drew.heap.size) (Nat.le_refl _) hrow2 hown3 hgrow3 hdr3; obtain ⟨va, vc, rfl⟩ := own_slice hown3))
  all_goals
    go_wp2_with fail
    go_end0
    exact ⟨⟨_, rfl⟩, x3⟩
end Go.Proofs.Ytlgbioidkbeanaa
