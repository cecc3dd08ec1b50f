/- What the methods of a channel do. -/
import Derived.Test.YtckjibjnplnfeaaLinkStr
set_option linter.unusedVariables false
set_option linter.unusedSimpArgs false
namespace Go.Proofs.Ytckjibjnplnfeaa
open Go.RowKit
attribute [local go_sem ↓] Go.wp_at_zero Go.wp_at_succ

theorem zero_str (w : World) : (zeroValue 9).run Try.prog w = .ok (.string ⟨#[]⟩) w := by kernel_rfl

set_option maxRecDepth 100000 in
set_option maxHeartbeats 1000000 in
theorem delete_str (g n cap i base : Nat) (xs : List Value) (w : World) (hown : w.ownsRow base 9 1 (.slice (some ⟨g, 0, none⟩) n cap) n xs) (hi : i < n) (h1 : ∀ u ∈ xs, u.oneCell' = true) :
    Calls Try.prog 27 #[.slice (some ⟨g, 0, none⟩) n cap, .int .i64 i, .int .i64 ((i : Int) + 1)] w (Deleted w 9 1 g n cap i base xs) := by
  obtain ⟨i0, hi0, hz0, hz1, hz2⟩ := info_parts info_str
  obtain ⟨hl, hh⟩ := hown
  obtain ⟨l, hblk, hcap, hm, hlen, htk, hbg⟩ : ∃ l : List Value, Blk w g (.cells l.toArray 9) ∧ n ≤ cap ∧ cap ≤ maxLen ∧ l.length = cap ∧ l.take (n) = xs ∧ base ≤ g := by
    rcases hh with ⟨hv, h0⟩ | ⟨g', cap', cur, hv, hg, hb, h2, h3, h4, h5⟩
    · omega
    · obtain ⟨rfl, rfl⟩ : g = g' ∧ cap = cap' := by simpa using hv
      exact ⟨cur.toList, hb, h2, h3, by simpa using h4, by simpa using h5, hg⟩
  clear hh
  unfold maxLen at hm
  have q1 : (0 : Int) ≤ (i : Int) := by omega
  have q2 : (i : Int) + 1 ≤ (n : Int) := by omega
  have q3 : (n : Int) ≤ (cap : Int) := by omega
  have q4 : (i : Int) ≤ (i : Int) + 1 := by omega
  have q5 : ((i : Int) == (i : Int) + 1) = false := by simp; omega
  have q6 : i ≤ cap := by omega
  have q7 : i + 1 ≤ n := by omega
  have q8 : i + 1 ≤ cap := by omega
  have q9 : ((i : Int) + 1).toNat = i + 1 := by omega
  have q10 : (0 : Int) ≤ (i : Int) + 1 := by omega
  have q11 : i + (n - (i + 1)) = n - 1 := by omega
  have hnl : (xs.drop ((i + 1))).length = (n - (i + 1)) := by rw [List.length_drop, hl]; omega
  have hcell : ∀ j u, xs[j]? = some u → w.cell? ⟨g, j, none⟩ = some u := by
    intro j u hj
    rw [hblk.cell]
    rw [← htk, List.getElem?_take] at hj
    split at hj
    · simpa using hj
    · cases hj
  have hsome : ∀ j, j < cap → (w.cell? ⟨g, j, none⟩).isSome = true ∧ w.frozen? ⟨g, j, none⟩ = false := by
    intro j hj
    refine ⟨?_, hblk.free j⟩
    rw [hblk.cell]
    simp [hlen]; omega
  have hb1 := Blk.setCells (w := w) (xs.drop ((i + 1))) (i) w.drew l hblk.drew (by rw [hnl, hlen]; omega)
  have hb2 := Blk.setCells (w := w) (Builtin.zeroCells (Value.cells (.string ⟨#[]⟩)) 1).toList ((n - 1)) _ _ hb1 (by simp [hnl, hlen, Builtin.zeroCells, Value.cells]; omega)
  have hfin : (List.take ((n - 1)) (List.take ((n - 1)) (List.take (i) l ++ List.drop ((i + 1)) xs ++ List.drop (i + (List.drop ((i + 1)) xs).length) l) ++ (Builtin.zeroCells (Value.cells (.string ⟨#[]⟩)) 1).toList ++ List.drop ((n - 1) + (Builtin.zeroCells (Value.cells (.string ⟨#[]⟩)) 1).toList.length) (List.take (i) l ++ List.drop ((i + 1)) xs ++ List.drop (i + (List.drop ((i + 1)) xs).length) l))) = xs.take (i) ++ xs.drop ((i + 1)) := by
    have e1 : (List.take (i) l ++ List.drop ((i + 1)) xs).length = (n - 1) := by
      rw [List.length_append, hnl, List.length_take, hlen]; omega
    rw [List.append_assoc, List.take_append_of_le_length (by rw [List.length_take, List.length_append, e1]; omega), List.take_take, Nat.min_self, List.take_append_of_le_length (by rw [e1]; omega), List.take_of_length_le (by rw [e1]; omega), ← htk, List.take_take, Nat.min_eq_left (by omega)]
  have hsz2 : ((w.drew.setCells g (i) (xs.drop ((i + 1)))).setCells g ((n - 1)) (Builtin.zeroCells (Value.cells (.string ⟨#[]⟩)) 1).toList).heap.size = w.heap.size := by rw [size_setCells', size_setCells']; rfl
  have hgr : w.grownBy ((w.drew.setCells g (i) (xs.drop ((i + 1)))).setCells g ((n - 1)) (Builtin.zeroCells (Value.cells (.string ⟨#[]⟩)) 1).toList) (some g) := grownBy_two (b := w.drew) ⟨rfl, rfl, rfl, Nat.le_refl _, fun _ _ _ => rfl⟩ (grownBy_two (grownBy_setCells g _ _) (grownBy_setCells g _ _))
  have hpost : Deleted w 9 1 g n cap i base xs (.returned (.slice (some ⟨g, 0, none⟩) (n - 1) cap)) ((w.drew.setCells g (i) (xs.drop ((i + 1)))).setCells g ((n - 1)) (Builtin.zeroCells (Value.cells (.string ⟨#[]⟩)) 1).toList) := by
    refine ⟨rfl, ⟨?_, .inr ⟨g, cap, _, rfl, hbg, hb2, by omega, by unfold maxLen; omega, ?_, ?_⟩⟩, hgr, hsz2⟩
    · rw [List.length_append, List.length_take, List.length_drop, hl]; omega
    · simp [hnl, hlen, Builtin.zeroCells, Value.cells]; omega
    · simpa using hfin
  have q12 : n - (n - 1) = 1 := by omega
  have hclr : (Builtin.clear_ #[22] 0 #[.slice (some ⟨g, (n - 1), none⟩) 1 (cap - (n - 1))]).run Try.prog (w.drew.setCells g (i) (xs.drop ((i + 1)))) = .ok (.tuple #[]) ((w.drew.setCells g (i) (xs.drop ((i + 1)))).setCells g ((n - 1)) (Builtin.zeroCells (Value.cells (.string ⟨#[]⟩)) 1).toList) :=
    run_clear_cells _ 22 9 0 (.string ⟨#[]⟩) Try.underlying22 zero_str (by simp [Value.cells, Value.oneCell']) g ((n - 1)) 1 (cap - (n - 1)) (by decide)
      (fun j hj => by rw [hb1.cell]; simp [Value.cells] at hj; simp [hnl, hlen]; omega) (fun j hj => hb1.free _)
  have HPost := Lib.hid hpost
  have HCell := Lib.hid hcell
  have HSome := Lib.hid hsome
  have HB1 := Lib.hid hb1
  have HNL := Lib.hid hnl
  have H1 := Lib.hid h1
  clear hpost hcell hsome hb1 hb2 hfin hnl hsz2 hgr h1 htk hl hblk
  by_cases hce : cap = i + 1
  · obtain rfl : n = i + 1 := by omega
    subst hce
    have hnl0 := HNL.out
    have hp0 := HPost.out
    simp only [Nat.add_sub_cancel, Nat.sub_self, Nat.zero_mul, Nat.add_sub_cancel_left] at hnl0 hp0 hclr q11 q12
    have HNL0 := Lib.hid hnl0
    have HP0 := Lib.hid hp0
    clear hnl0 hp0 q5 q11 q12
    have q5 : ((i : Int) == (i : Int) + 1) = false := by simp; omega
    go_enter Try.func27, Try.ntmps27
    go_wp2_with fail
    go_region_law (refine step_append_room rfl (.tmp 22) (.tmp 25) 22 rfl 9 i0 1 Try.underlying22 hi0 hz1 g 0 i (i + 1) (by simp [Act.eval, Act.put]) ⟨g, 0, none⟩ 0 0 (xs.drop ((i + 1))) (by simp [Act.eval, Act.put]) (by rw [HNL0.out, Nat.zero_mul]) (fun j u hj => absurd (List.getElem?_eq_some_iff.1 hj).1 (by rw [HNL0.out]; omega)) (fun u hu => H1.out u (List.mem_of_mem_drop hu)) (by omega) (fun j hj => absurd hj (by rw [HNL0.out]; omega)) ?_)
    go_wp2_with fail
    go_returns
    exact HP0.out
  · go_enter Try.func27, Try.ntmps27
    go_wp2_with fail
    go_region_law (refine step_append_room rfl (.tmp 22) (.tmp 25) 22 rfl 9 i0 1 Try.underlying22 hi0 hz1 g 0 i cap (by simp [Act.eval, Act.put]) ⟨g, (i + 1), none⟩ (n - (i + 1)) (cap - (i + 1)) (xs.drop ((i + 1))) (by simp [Act.eval, Act.put]) (HNL.out.trans (by omega)) (fun j u hj => by rw [addr_add]; exact HCell.out _ u (by rw [List.getElem?_drop] at hj; exact hj)) (fun u hu => H1.out u (List.mem_of_mem_drop hu)) (by omega) (fun j hj => by rw [HNL.out] at hj; have := HSome.out (0 + i + j) (by omega); (first | exact this | (rw [Nat.mul_one]; exact this))) ?_)
    go_wp2_with fail
    go_returns
    exact HPost.out

theorem begin_any (w : World) : Calls Try.prog 6 #[] w fun e w' => e = .returned (.agg #[.int .i64 1, .slice none 0 0]) ∧ Below w.heap.size w w' := by
  go_enter Try.func6, Try.ntmps6
  go_wp2_with fail
  go_returns
  exact ⟨rfl, by go_grown⟩
def ChanAt (w : World) (b : Nat) (l : List ByteArray) : Prop := ∃ v, Blk w b (.cells #[v] 57) ∧ strE.Own w (b + 1) 9 v l
theorem ChanAt.after {w w' : World} {b : Nat} {l : List ByteArray} (h : ChanAt w b l) (hb : Below w.heap.size w w') : ChanAt w' b l := by
  obtain ⟨v, h1, h2⟩ := h
  exact ⟨v, h1.after hb, h2.after hb⟩
theorem new_any (w : World) : Calls Try.prog 15 #[] w fun e w' => e = .returned (.pointer (some ⟨w.heap.size, 0, none⟩)) ∧ ChanAt w' w.heap.size [] ∧ Below w.heap.size w w' := by
  go_enter Try.func15, Try.ntmps15
  go_wp2_with fail
  go_returns
  exact ⟨rfl, ⟨_, Blk.new _ _, Enc.Own.nil _ _ _ _⟩, by go_grown⟩
set_option maxRecDepth 100000 in
set_option maxHeartbeats 1000000 in
theorem send_any (b : Nat) (l : List ByteArray) (t : ByteArray) (w : World) (hc : ChanAt w b l) (hl : l.length < 64) (ht : t.size ≤ 120) :
    Calls Try.prog 17 #[.pointer (some ⟨b, 0, none⟩), .string t] w fun e w' => e = .returned (.int .i64 0) ∧ ChanAt w' b (l ++ [t]) ∧ Below b w w' := by
  obtain ⟨v, hblk, hown⟩ := hc
  obtain ⟨a, c, hv, -⟩ := hown.slc
  subst hv
  obtain ⟨hlt, x0, f0⟩ := hblk.one
  have HB := Lib.hid hblk; have HO := Lib.hid hown; clear hblk hown
  have hd : decide (120 < t.size) = false := by simp; omega
  have hd2 : ((l.length : Int) == 64) = false := by simp; omega
  go_enter Try.func17, Try.ntmps17
  go_wp2_with (at_builtin; refine wpA_str rfl _ _ rfl (b + 1) _ l rfl ?c0 _ t rfl #[.string t] (0, 0) ?c1 rfl ?c2 ?c3 ?_)
  case c0 => exact HO.out.after (by repeat' (first | exact Below.refl _ _ | assumption | (with_reducible refine Below.alloc ?_ ?_ _) | (with_reducible refine below_drewN ?_ _) | (with_reducible refine Below.drew ?_) | (with_reducible refine Below.setCell ?_ ?_ _) | go_size))
  case c1 => exact Blk.newAt _ _ _ (by first | rfl | (simp; done))
  case c2 => omega
  case c3 => (simp; omega)
  intro g cap w2 hown2 hgrow hat hlt2
  have hB2 := Below.grown (B := b) (a := w) (by repeat' (first | exact Below.refl _ _ | omega | assumption | (with_reducible refine Below.alloc ?_ ?_ _) | (with_reducible refine below_drewN ?_ _) | (with_reducible refine Below.drew ?_) | (with_reducible refine Below.setCell ?_ ?_ _) | go_size)) hgrow (by simp; omega) (fun k hk => by have := (HO.out.lt k hk).1; omega)
  have hne : some b ≠ (Value.slice a l.length c).ownBlock := fun hh => by have := (HO.out.lt b hh.symm).1; omega
  have B2 := Lib.hid ((hgrow.block b (by simp; omega) hne).trans (HB.out.alloc _))
  obtain ⟨lt2, y0, y1⟩ := Blk.one B2.out
  have HO2 := Lib.hid hown2
  clear hgrow hat hown2
  go_wp2_with fail
  go_returns
  exact ⟨rfl, ⟨_, Blk.set B2.out 0 _, ownsRow_setCell_below HO2.out (Nat.lt_succ_self b) _⟩, hB2.setCell (Nat.le_refl _) _⟩
set_option maxRecDepth 100000 in
set_option maxHeartbeats 1000000 in
theorem deliver_any (b : Nat) (l : List ByteArray) (i : Nat) (w : World) (hc : ChanAt w b l) (hi : i < l.length) :
    Calls Try.prog 18 #[.pointer (some ⟨b, 0, none⟩), .int .i64 i] w fun e w' => e = .returned (.tuple #[.string (el l i), .int .i64 0]) ∧ ChanAt w' b (l.eraseIdx i) ∧ Below b w w' := by
  obtain ⟨v, hblk, hown⟩ := hc
  obtain ⟨g, cap, hv, hc1, hc2, hgb, hgl⟩ := owned_some hown (by omega)
  subst hv
  obtain ⟨hlt, x0, f0⟩ := hblk.one
  have y0 : w.cell? ⟨g, i, none⟩ = some (.string (el l i)) := by
    rw [hown.cellAt i (by show i < l.length * 1; omega)]
    have := strE.flat_get l i 0 hi (by decide)
    simpa [strE] using this
  unfold maxLen at hc2
  have HB := Lib.hid hblk; have HO := Lib.hid hown; clear hblk hown
  have hi0 : (0 : Int) ≤ (i : Int) := by omega
  have hi1 : (i : Int) < (l.length : Int) := by omega
  have hi2 : IntKind.i64.wrap ((i : Int) + 1) = (i : Int) + 1 := IntWalk.i64_in _ (by omega)
  go_enter Try.func18, Try.ntmps18
  go_wp2_with fail
  refine (delete_str g l.length cap i (b + 1) (strE.flat l) _ HO.out hi (strE.flat_one l)).mono ?_
  rintro e w1 ⟨rfl, ho, hg, hsz⟩
  have B1 := Lib.hid ((hg.block b (by omega) (by simp; omega)).trans HB.out)
  obtain ⟨lt1, x1, f1⟩ := Blk.one B1.out
  have hB1 : Below b w w1 := (Below.refl _ _).grown hg (by omega) (fun k hk => by simp at hk; omega)
  have HO1 : Hid (strE.Own w1 (b + 1) 9 (.slice (some ⟨g, 0, none⟩) (l.length - 1) cap) (l.eraseIdx i)) := Lib.hid (by
    show w1.ownsRow _ _ 1 _ (l.eraseIdx i).length (strE.flat (l.eraseIdx i))
    rw [List.length_eraseIdx, if_pos hi, List.eraseIdx_eq_take_drop_succ, Enc.flat_append, ← strE.flat_take, ← strE.flat_drop]
    exact ho)
  clear ho hg x0 y0
  go_wp2_with fail
  go_returns
  exact ⟨rfl, ⟨_, Blk.set B1.out 0 _, ownsRow_setCell_below HO1.out (Nat.lt_succ_self b) _⟩, hB1.setCell (Nat.le_refl _) _⟩
set_option maxHeartbeats 1000000 in
theorem twice_any (b : Nat) (l : List ByteArray) (i : Nat) (w : World) (hc : ChanAt w b l) (hi : i < l.length) (hl : l.length < 64) (ht : (el l i).size ≤ 120) :
    Calls Try.prog 19 #[.pointer (some ⟨b, 0, none⟩), .int .i64 i] w fun e w' => e = .returned (.int .i64 0) ∧ ChanAt w' b (l ++ [el l i]) ∧ Below b w w' := by
  have HC := Lib.hid hc
  obtain ⟨v, hblk, hown⟩ := hc
  obtain ⟨g, cap, hv, hc1, hc2, hgb, hgl⟩ := owned_some hown (by omega)
  subst hv
  obtain ⟨hlt, x0, f0⟩ := hblk.one
  have y0 : w.cell? ⟨g, i, none⟩ = some (.string (el l i)) := by
    rw [hown.cellAt i (by show i < l.length * 1; omega)]
    have := strE.flat_get l i 0 hi (by decide)
    simpa [strE] using this
  clear hblk hown
  have hi0 : (0 : Int) ≤ (i : Int) := by omega
  have hi1 : (i : Int) < (l.length : Int) := by omega
  go_enter Try.func19, Try.ntmps19
  go_wp2_with fail
  refine (send_any b l (el l i) _ HC.out hl ht).mono ?_
  rintro e w1 ⟨rfl, h1, h2⟩
  have H1 := Lib.hid h1; clear h1
  go_wp2_with fail
  go_returns
  exact ⟨rfl, H1.out, h2⟩
set_option maxHeartbeats 400000 in
theorem len_any (b : Nat) (l : List ByteArray) (w : World) (hc : ChanAt w b l) :
    Calls Try.prog 21 #[.pointer (some ⟨b, 0, none⟩)] w fun e w' => e = .returned (.int .i64 l.length) ∧ w = w' := by
  obtain ⟨v, hblk, hown⟩ := hc
  obtain ⟨a, c, hv, -⟩ := hown.slc
  subst hv
  obtain ⟨hlt, x0, f0⟩ := hblk.one
  clear hblk hown
  go_enter Try.func21, Try.ntmps21
  go_wp2_with fail
  go_returns
  exact ⟨rfl, rfl⟩
set_option maxHeartbeats 400000 in
theorem lose_out (b : Nat) (l : List ByteArray) (i : Int) (w : World) (hc : ChanAt w b l) (hi : 0 ≤ i) (hi2 : l.length ≤ i) :
    Calls Try.prog 22 #[.pointer (some ⟨b, 0, none⟩), .int .i64 i] w fun e w' => e = .returned (.int .i64 8) ∧ w = w' := by
  obtain ⟨v, hblk, hown⟩ := hc
  obtain ⟨a, c, hv, -⟩ := hown.slc
  subst hv
  obtain ⟨hlt, x0, f0⟩ := hblk.one
  clear hblk hown
  go_enter Try.func22, Try.ntmps22
  go_wp2
  go_returns
  exact ⟨rfl, rfl⟩

end Go.Proofs.Ytckjibjnplnfeaa
