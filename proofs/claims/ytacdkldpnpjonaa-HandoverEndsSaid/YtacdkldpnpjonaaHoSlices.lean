/- What slices.Clone and slices.Delete return for slices of messages. -/
import Derived.Test.YtacdkldpnpjonaaOwned
set_option linter.unusedVariables false
set_option linter.unusedSimpArgs false
namespace Go.Proofs.Ytacdkldpnpjonaa
open Go.RowKit

theorem info_msg : (Try.prog.info? 25).map (fun i => (i.zero, i.size, i.bytes)) = some (some (.agg #[.bool false, .int .i64 0]), 2, 16) := by kernel_rfl

set_option maxRecDepth 100000 in
set_option maxHeartbeats 400000 in
theorem clone_msg (a : Option Addr) (n c : Nat) (f : Nat → Value) (w : World) (hm : n ≤ maxLen) (hby : n * 16 ≤ 140737488355328) (hnil : a = none → n = 0)
    (hR : RowAt w 2 a n f) (h1 : ∀ k, k < n * 2 → (f k).oneCell' = true) :
    Calls Try.prog 21 #[.slice a n c] w (Made w 25 2 n ((List.range (n * 2)).map f) (a = none)) := by
  obtain ⟨i0, hi, hz0, hz1, hz2⟩ := info_parts info_msg
  have hq := fun wx => Lib.run_eql_slice_nil (P := Try.prog) wx 35 25 a n c 0 0 Try.underlying35
  cases a with
  | none =>
    obtain rfl := hnil rfl
    simp only [Option.isNone] at hq
    go_enter Try.func21, Try.ntmps21
    go_wp2_with fail
    go_returns
    exact ⟨_, rfl, by simpa using World.ownsRow_nil _ _ _ _, Below.refl _ _, by simp⟩
  | some ad =>
    simp only [Option.isNone] at hq
    have HR := Lib.hid hR; clear hR
    have H1 := Lib.hid h1; clear h1
    have HN := Lib.hid hnil; clear hnil
    have HM := Lib.hid hm; clear hm
    go_enter Try.func21, Try.ntmps21
    go_wp2_with (at_builtin; refine wpList_append_own _ rfl _ _ 35 rfl w.heap.size 25 i0 (.agg #[.bool false, .int .i64 0]) 2 16 Try.underlying35 hi hz0 hz1 hz2 rfl (by decide) _ 0 [] rfl ?c0 ad n c ((List.range (n * 2)).map f) rfl ?c1 ?c2 ?c3 ?c4 ?c5 ?c6 ?_)
    case c0 => exact ⟨by simp, .inr ⟨_, _, _, rfl, Nat.le_refl _, by exact Blk.new _ _, Nat.le_refl _, by decide, rfl, rfl⟩⟩
    case c1 => simp
    case c2 =>
      intro j u hj
      simp only [List.getElem?_map, Option.map_eq_some_iff] at hj
      obtain ⟨k, hk, rfl⟩ := hj
      have hk2 := List.getElem?_eq_some_iff.1 hk
      obtain ⟨hk3, hk4⟩ := hk2
      rw [List.length_range] at hk3
      rw [List.getElem_range] at hk4
      subst hk4
      obtain ⟨b, off, he, hlt, hc⟩ := HR.out (by rcases Nat.eq_zero_or_pos n with h | h; (subst h; omega); exact h)
      obtain rfl := Option.some.inj he
      rw [addr_add, World.cell?_alloc_lt _ _ _ hlt]
      exact hc j hk3
    case c3 =>
      intro u hu
      obtain ⟨k, hk, rfl⟩ := List.mem_map.1 hu
      exact H1.out k (by simpa using hk)
    case c4 => simpa using HM.out
    case c5 => simpa using hby
    case c6 => simp
    intro v' w1 hown hgrow hiff
    have HI := Lib.hid hiff; clear hiff
    go_wp2_with fail
    go_returns
    refine ⟨v', rfl, by simpa using hown, ?_, ?_⟩
    · exact ((Below.refl _ _).alloc (Nat.le_refl _) _).grown hgrow (by simp) (by intro k hk; simp [Value.ownBlock] at hk; omega)
    · exact ⟨fun h => absurd h HI.out, fun h => absurd h (by simp)⟩

theorem zero_msg (w : World) : (zeroValue 25).run Try.prog w = .ok (.agg #[.bool false, .int .i64 0]) w := by kernel_rfl

set_option maxRecDepth 100000 in
set_option maxHeartbeats 1000000 in
theorem delete_msg (g n cap i base : Nat) (xs : List Value) (w : World) (hown : w.ownsRow base 25 2 (.slice (some ⟨g, 0, none⟩) n cap) n xs) (hi : i < n) (h1 : ∀ u ∈ xs, u.oneCell' = true) :
    Calls Try.prog 20 #[.slice (some ⟨g, 0, none⟩) n cap, .int .i64 i, .int .i64 ((i : Int) + 1)] w (Deleted w 25 2 g n cap i base xs) := by
  obtain ⟨i0, hi0, hz0, hz1, hz2⟩ := info_parts info_msg
  obtain ⟨hl, hh⟩ := hown
  obtain ⟨l, hblk, hcap, hm, hlen, htk, hbg⟩ : ∃ l : List Value, Blk w g (.cells l.toArray 25) ∧ n ≤ cap ∧ cap ≤ maxLen ∧ l.length = cap * 2 ∧ l.take (n * 2) = xs ∧ base ≤ g := by
    rcases hh with ⟨hv, h0⟩ | ⟨g', cap', cur, hv, hg, hb, h2, h3, h4, h5⟩
    · omega
    · obtain ⟨rfl, rfl⟩ : g = g' ∧ cap = cap' := by simpa using hv
      exact ⟨cur.toList, hb, h2, h3, by simpa using h4, h5, hg⟩
  clear hh
  unfold maxLen at hm
  have q1 : (0 : Int) ≤ (i : Int) := by omega
  have q2 : (i : Int) + 1 ≤ (n : Int) := by omega
  have q3 : (n : Int) ≤ (cap : Int) := by omega
  have q4 : (i : Int) ≤ (i : Int) + 1 := by omega
  have q5 : ((i : Int) == (i : Int) + 1) = false := by simp; omega
  have q6 : i ≤ cap := by omega
  have q7 : i + 1 ≤ n := by omega
  have q8 : i + 1 ≤ cap := by omega
  have q9 : ((i : Int) + 1).toNat = i + 1 := by omega
  have q10 : (0 : Int) ≤ (i : Int) + 1 := by omega
  have q11 : i + (n - (i + 1)) = n - 1 := by omega
  have hnl : (xs.drop ((i + 1) * 2)).length = (n - (i + 1)) * 2 := by rw [List.length_drop, hl]; omega
  have hcell : ∀ j u, xs[j]? = some u → w.cell? ⟨g, j, none⟩ = some u := by
    intro j u hj
    rw [hblk.cell]
    rw [← htk, List.getElem?_take] at hj
    split at hj
    · simpa using hj
    · cases hj
  have hsome : ∀ j, j < cap * 2 → (w.cell? ⟨g, j, none⟩).isSome = true ∧ w.frozen? ⟨g, j, none⟩ = false := by
    intro j hj
    refine ⟨?_, hblk.free j⟩
    rw [hblk.cell]
    simp [hlen, hj]
  have hb1 := Blk.setCells (w := w) (xs.drop ((i + 1) * 2)) (i * 2) w.drew l hblk.drew (by rw [hnl, hlen]; omega)
  have hb2 := Blk.setCells (w := w) (Builtin.zeroCells (Value.cells (.agg #[.bool false, .int .i64 0])) 1).toList ((n - 1) * 2) _ _ hb1 (by simp [hnl, hlen, Builtin.zeroCells, Value.cells]; omega)
  have hfin : (List.take ((n - 1) * 2) (List.take ((n - 1) * 2) (List.take (i * 2) l ++ List.drop ((i + 1) * 2) xs ++ List.drop (i * 2 + (List.drop ((i + 1) * 2) xs).length) l) ++ (Builtin.zeroCells (Value.cells (.agg #[.bool false, .int .i64 0])) 1).toList ++ List.drop ((n - 1) * 2 + (Builtin.zeroCells (Value.cells (.agg #[.bool false, .int .i64 0])) 1).toList.length) (List.take (i * 2) l ++ List.drop ((i + 1) * 2) xs ++ List.drop (i * 2 + (List.drop ((i + 1) * 2) xs).length) l))) = xs.take (i * 2) ++ xs.drop ((i + 1) * 2) := by
    have e1 : (List.take (i * 2) l ++ List.drop ((i + 1) * 2) xs).length = (n - 1) * 2 := by
      rw [List.length_append, hnl, List.length_take, hlen]; omega
    rw [List.append_assoc, List.take_append_of_le_length (by rw [List.length_take, List.length_append, e1]; omega), List.take_take, Nat.min_self, List.take_append_of_le_length (by rw [e1]; omega), List.take_of_length_le (by rw [e1]; omega), ← htk, List.take_take, Nat.min_eq_left (by omega)]
  have hsz2 : ((w.drew.setCells g (i * 2) (xs.drop ((i + 1) * 2))).setCells g ((n - 1) * 2) (Builtin.zeroCells (Value.cells (.agg #[.bool false, .int .i64 0])) 1).toList).heap.size = w.heap.size := by rw [size_setCells', size_setCells']; rfl
  have hgr : w.grownBy ((w.drew.setCells g (i * 2) (xs.drop ((i + 1) * 2))).setCells g ((n - 1) * 2) (Builtin.zeroCells (Value.cells (.agg #[.bool false, .int .i64 0])) 1).toList) (some g) := grownBy_two (b := w.drew) ⟨rfl, rfl, rfl, Nat.le_refl _, fun _ _ _ => rfl⟩ (grownBy_two (grownBy_setCells g _ _) (grownBy_setCells g _ _))
  have hpost : Deleted w 25 2 g n cap i base xs (.returned (.slice (some ⟨g, 0, none⟩) (n - 1) cap)) ((w.drew.setCells g (i * 2) (xs.drop ((i + 1) * 2))).setCells g ((n - 1) * 2) (Builtin.zeroCells (Value.cells (.agg #[.bool false, .int .i64 0])) 1).toList) := by
    refine ⟨rfl, ⟨?_, .inr ⟨g, cap, _, rfl, hbg, hb2, by omega, by unfold maxLen; omega, ?_, ?_⟩⟩, hgr, hsz2⟩
    · rw [List.length_append, hnl, List.length_take, hl]; omega
    · simp [hnl, hlen, Builtin.zeroCells, Value.cells]; omega
    · simpa using hfin
  have q12 : n - (n - 1) = 1 := by omega
  have hclr : (Builtin.clear_ #[35] 0 #[.slice (some ⟨g, (n - 1) * 2, none⟩) 1 (cap - (n - 1))]).run Try.prog (w.drew.setCells g (i * 2) (xs.drop ((i + 1) * 2))) = .ok (.tuple #[]) ((w.drew.setCells g (i * 2) (xs.drop ((i + 1) * 2))).setCells g ((n - 1) * 2) (Builtin.zeroCells (Value.cells (.agg #[.bool false, .int .i64 0])) 1).toList) :=
    run_clear_cells _ 35 25 0 (.agg #[.bool false, .int .i64 0]) Try.underlying35 zero_msg (by simp [Value.cells, Value.oneCell']) g ((n - 1) * 2) 1 (cap - (n - 1)) (by decide)
      (fun j hj => by rw [hb1.cell]; simp [Value.cells] at hj; simp [hnl, hlen]; omega) (fun j hj => hb1.free _)
  have HPost := Lib.hid hpost
  have HCell := Lib.hid hcell
  have HSome := Lib.hid hsome
  have HB1 := Lib.hid hb1
  have HNL := Lib.hid hnl
  have H1 := Lib.hid h1
  clear hpost hcell hsome hb1 hb2 hfin hnl hsz2 hgr h1 htk hl hblk
  by_cases hce : cap = i + 1
  · obtain rfl : n = i + 1 := by omega
    subst hce
    have hnl0 := HNL.out
    have hp0 := HPost.out
    simp only [Nat.add_sub_cancel, Nat.sub_self, Nat.zero_mul, Nat.add_sub_cancel_left] at hnl0 hp0 hclr q11 q12
    have HNL0 := Lib.hid hnl0
    have HP0 := Lib.hid hp0
    clear hnl0 hp0 q5 q11 q12
    have q5 : ((i : Int) == (i : Int) + 1) = false := by simp; omega
    go_enter Try.func20, Try.ntmps20
    go_wp2_with fail
    go_region_law (refine step_append_room rfl (.tmp 22) (.tmp 25) 35 rfl 25 i0 2 Try.underlying35 hi0 hz1 g 0 i (i + 1) (by simp [Act.eval, Act.put]) ⟨g, 0, none⟩ 0 0 (xs.drop ((i + 1) * 2)) (by simp [Act.eval, Act.put]) (by rw [HNL0.out, Nat.zero_mul]) (fun j u hj => absurd (List.getElem?_eq_some_iff.1 hj).1 (by rw [HNL0.out]; omega)) (fun u hu => H1.out u (List.mem_of_mem_drop hu)) (by omega) (fun j hj => absurd hj (by rw [HNL0.out]; omega)) ?_)
    go_wp2_with fail
    go_returns
    exact HP0.out
  · go_enter Try.func20, Try.ntmps20
    go_wp2_with fail
    go_region_law (refine step_append_room rfl (.tmp 22) (.tmp 25) 35 rfl 25 i0 2 Try.underlying35 hi0 hz1 g 0 i cap (by simp [Act.eval, Act.put]) ⟨g, (i + 1) * 2, none⟩ (n - (i + 1)) (cap - (i + 1)) (xs.drop ((i + 1) * 2)) (by simp [Act.eval, Act.put]) HNL.out (fun j u hj => by rw [addr_add]; exact HCell.out _ u (by rw [List.getElem?_drop] at hj; exact hj)) (fun u hu => H1.out u (List.mem_of_mem_drop hu)) (by omega) (fun j hj => by rw [HNL.out] at hj; have := HSome.out (0 + i * 2 + j) (by omega); exact this) ?_)
    go_wp2_with fail
    go_returns
    exact HPost.out

end Go.Proofs.Ytacdkldpnpjonaa
