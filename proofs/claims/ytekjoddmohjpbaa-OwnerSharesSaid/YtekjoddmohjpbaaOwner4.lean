/- Clone and Delete at entries of package owner. -/
import Derived.Test.YtekjoddmohjpbaaOwner3
set_option linter.unusedVariables false
set_option linter.unusedSimpArgs false
namespace Go.Proofs.Ytekjoddmohjpbaa
open Go.RowKit
attribute [local go_sem ↓] Go.wp_at_zero Go.wp_at_succ

theorem info_ent : (Try.prog.info? 32).map (fun i => (i.zero, i.size, i.bytes)) = some (some (.agg #[.string ⟨#[]⟩, .string ⟨#[]⟩, .string ⟨#[]⟩]), 3, 48) := by kernel_rfl

set_option maxRecDepth 100000 in
set_option maxHeartbeats 400000 in
theorem clone_ent (a : Option Addr) (n c : Nat) (f : Nat → Value) (w : World) (hm : n ≤ maxLen) (hby : n * 48 ≤ 140737488355328) (hnil : a = none → n = 0)
    (hR : RowAt w 3 a n f) (h1 : ∀ k, k < n * 3 → (f k).oneCell' = true) :
    Calls Try.prog 28 #[.slice a n c] w (Made w 32 3 n ((List.range (n * 3)).map f) (a = none)) := by
  obtain ⟨i0, hi, hz0, hz1, hz2⟩ := info_parts info_ent
  have hq := fun wx => Lib.run_eql_slice_nil (P := Try.prog) wx 22 32 a n c 0 0 Try.underlying22
  cases a with
  | none =>
    obtain rfl := hnil rfl
    simp only [Option.isNone] at hq
    go_enter Try.func28, Try.ntmps28
    go_wp2_with fail
    go_returns
    exact ⟨_, rfl, by simpa using World.ownsRow_nil _ _ _ _, Below.refl _ _, by simp⟩
  | some ad =>
    simp only [Option.isNone] at hq
    have HR := Lib.hid hR; clear hR
    have H1 := Lib.hid h1; clear h1
    have HN := Lib.hid hnil; clear hnil
    have HM := Lib.hid hm; clear hm
    go_enter Try.func28, Try.ntmps28
    go_wp2_with (at_builtin; refine wpList_append_own _ rfl _ _ 22 rfl w.heap.size 32 i0 (.agg #[.string ⟨#[]⟩, .string ⟨#[]⟩, .string ⟨#[]⟩]) 3 48 Try.underlying22 hi hz0 hz1 hz2 rfl (by decide) _ 0 [] rfl ?c0 ad n c ((List.range (n * 3)).map f) rfl ?c1 ?c2 ?c3 ?c4 ?c5 ?c6 ?_)
    case c0 => exact ⟨by simp, .inr ⟨_, _, _, rfl, Nat.le_refl _, by exact Blk.new _ _, Nat.le_refl _, by decide, rfl, rfl⟩⟩
    case c1 => simp
    case c2 =>
      intro j u hj
      simp only [List.getElem?_map, Option.map_eq_some_iff] at hj
      obtain ⟨k, hk, rfl⟩ := hj
      have hk2 := List.getElem?_eq_some_iff.1 hk
      obtain ⟨hk3, hk4⟩ := hk2
      rw [List.length_range] at hk3
      rw [List.getElem_range] at hk4
      subst hk4
      obtain ⟨b, off, he, hlt, hc⟩ := HR.out (by rcases Nat.eq_zero_or_pos n with h | h; (subst h; omega); exact h)
      obtain rfl := Option.some.inj he
      rw [addr_add, World.cell?_alloc_lt _ _ _ hlt]
      exact hc j hk3
    case c3 =>
      intro u hu
      obtain ⟨k, hk, rfl⟩ := List.mem_map.1 hu
      exact H1.out k (by simpa using hk)
    case c4 => simpa using HM.out
    case c5 => simpa using hby
    case c6 => simp
    intro v' w1 hown hgrow hiff
    have HI := Lib.hid hiff; clear hiff
    go_wp2_with fail
    go_returns
    refine ⟨v', rfl, by simpa using hown, ?_, ?_⟩
    · exact ((Below.refl _ _).alloc (Nat.le_refl _) _).grown hgrow (by simp) (by intro k hk; simp [Value.ownBlock] at hk; omega)
    · exact ⟨fun h => absurd h HI.out, fun h => absurd h (by simp)⟩

theorem cloneL_ent (a : Option Addr) (c : Nat) (l : List OEntry) (w : World) (hs : entE.Slc w a c l) (hby : l.length * 48 ≤ 140737488355328) :
    Calls Try.prog 28 #[.slice a l.length c] w fun e w' => ∃ v, e = .returned v ∧ entE.Own w' w.heap.size 32 v l ∧ Below w.heap.size w w' ∧ (v = .slice none 0 0 ↔ a = none) := by
  refine (clone_ent a l.length c (entE.cellAt l) w hs.max hby hs.none hs.row (fun k hk => entE.cellAt_one l k hk)).mono ?_
  rintro e w' ⟨v, rfl, hown, hb, hiff⟩
  refine ⟨v, rfl, ?_, hb, hiff⟩
  have h2 := entE.cells_flat l
  show w'.ownsRow _ _ _ _ _ _
  rw [← h2]
  exact hown

theorem zero_ent (w : World) : (zeroValue 32).run Try.prog w = .ok (.agg #[.string ⟨#[]⟩, .string ⟨#[]⟩, .string ⟨#[]⟩]) w := by kernel_rfl

set_option maxRecDepth 100000 in
set_option maxHeartbeats 1000000 in
theorem delete_ent (g n cap i base : Nat) (xs : List Value) (w : World) (hown : w.ownsRow base 32 3 (.slice (some ⟨g, 0, none⟩) n cap) n xs) (hi : i < n) (h1 : ∀ u ∈ xs, u.oneCell' = true) :
    Calls Try.prog 35 #[.slice (some ⟨g, 0, none⟩) n cap, .int .i64 i, .int .i64 ((i : Int) + 1)] w (Deleted w 32 3 g n cap i base xs) := by
  obtain ⟨i0, hi0, hz0, hz1, hz2⟩ := info_parts info_ent
  obtain ⟨hl, hh⟩ := hown
  obtain ⟨l, hblk, hcap, hm, hlen, htk, hbg⟩ : ∃ l : List Value, Blk w g (.cells l.toArray 32) ∧ n ≤ cap ∧ cap ≤ maxLen ∧ l.length = cap * 3 ∧ l.take (n * 3) = xs ∧ base ≤ g := by
    rcases hh with ⟨hv, h0⟩ | ⟨g', cap', cur, hv, hg, hb, h2, h3, h4, h5⟩
    · omega
    · obtain ⟨rfl, rfl⟩ : g = g' ∧ cap = cap' := by simpa using hv
      exact ⟨cur.toList, hb, h2, h3, by simpa using h4, by simpa using h5, hg⟩
  clear hh
  unfold maxLen at hm
  have q1 : (0 : Int) ≤ (i : Int) := by omega
  have q2 : (i : Int) + 1 ≤ (n : Int) := by omega
  have q3 : (n : Int) ≤ (cap : Int) := by omega
  have q4 : (i : Int) ≤ (i : Int) + 1 := by omega
  have q5 : ((i : Int) == (i : Int) + 1) = false := by simp; omega
  have q6 : i ≤ cap := by omega
  have q7 : i + 1 ≤ n := by omega
  have q8 : i + 1 ≤ cap := by omega
  have q9 : ((i : Int) + 1).toNat = i + 1 := by omega
  have q10 : (0 : Int) ≤ (i : Int) + 1 := by omega
  have q11 : i + (n - (i + 1)) = n - 1 := by omega
  have hnl : (xs.drop ((i + 1) * 3)).length = (n - (i + 1)) * 3 := by rw [List.length_drop, hl]; omega
  have hcell : ∀ j u, xs[j]? = some u → w.cell? ⟨g, j, none⟩ = some u := by
    intro j u hj
    rw [hblk.cell]
    rw [← htk, List.getElem?_take] at hj
    split at hj
    · simpa using hj
    · cases hj
  have hsome : ∀ j, j < cap * 3 → (w.cell? ⟨g, j, none⟩).isSome = true ∧ w.frozen? ⟨g, j, none⟩ = false := by
    intro j hj
    refine ⟨?_, hblk.free j⟩
    rw [hblk.cell]
    simp [hlen]; omega
  have hb1 := Blk.setCells (w := w) (xs.drop ((i + 1) * 3)) (i * 3) w.drew l hblk.drew (by rw [hnl, hlen]; omega)
  have hb2 := Blk.setCells (w := w) (Builtin.zeroCells (Value.cells (.agg #[.string ⟨#[]⟩, .string ⟨#[]⟩, .string ⟨#[]⟩])) 1).toList ((n - 1) * 3) _ _ hb1 (by simp [hnl, hlen, Builtin.zeroCells, Value.cells]; omega)
  have hfin : (List.take ((n - 1) * 3) (List.take ((n - 1) * 3) (List.take (i * 3) l ++ List.drop ((i + 1) * 3) xs ++ List.drop (i * 3 + (List.drop ((i + 1) * 3) xs).length) l) ++ (Builtin.zeroCells (Value.cells (.agg #[.string ⟨#[]⟩, .string ⟨#[]⟩, .string ⟨#[]⟩])) 1).toList ++ List.drop ((n - 1) * 3 + (Builtin.zeroCells (Value.cells (.agg #[.string ⟨#[]⟩, .string ⟨#[]⟩, .string ⟨#[]⟩])) 1).toList.length) (List.take (i * 3) l ++ List.drop ((i + 1) * 3) xs ++ List.drop (i * 3 + (List.drop ((i + 1) * 3) xs).length) l))) = xs.take (i * 3) ++ xs.drop ((i + 1) * 3) := by
    have e1 : (List.take (i * 3) l ++ List.drop ((i + 1) * 3) xs).length = (n - 1) * 3 := by
      rw [List.length_append, hnl, List.length_take, hlen]; omega
    rw [List.append_assoc, List.take_append_of_le_length (by rw [List.length_take, List.length_append, e1]; omega), List.take_take, Nat.min_self, List.take_append_of_le_length (by rw [e1]; omega), List.take_of_length_le (by rw [e1]; omega), ← htk, List.take_take, Nat.min_eq_left (by omega)]
  have hsz2 : ((w.drew.setCells g (i * 3) (xs.drop ((i + 1) * 3))).setCells g ((n - 1) * 3) (Builtin.zeroCells (Value.cells (.agg #[.string ⟨#[]⟩, .string ⟨#[]⟩, .string ⟨#[]⟩])) 1).toList).heap.size = w.heap.size := by rw [size_setCells', size_setCells']; rfl
  have hgr : w.grownBy ((w.drew.setCells g (i * 3) (xs.drop ((i + 1) * 3))).setCells g ((n - 1) * 3) (Builtin.zeroCells (Value.cells (.agg #[.string ⟨#[]⟩, .string ⟨#[]⟩, .string ⟨#[]⟩])) 1).toList) (some g) := grownBy_two (b := w.drew) ⟨rfl, rfl, rfl, Nat.le_refl _, fun _ _ _ => rfl⟩ (grownBy_two (grownBy_setCells g _ _) (grownBy_setCells g _ _))
  have hpost : Deleted w 32 3 g n cap i base xs (.returned (.slice (some ⟨g, 0, none⟩) (n - 1) cap)) ((w.drew.setCells g (i * 3) (xs.drop ((i + 1) * 3))).setCells g ((n - 1) * 3) (Builtin.zeroCells (Value.cells (.agg #[.string ⟨#[]⟩, .string ⟨#[]⟩, .string ⟨#[]⟩])) 1).toList) := by
    refine ⟨rfl, ⟨?_, .inr ⟨g, cap, _, rfl, hbg, hb2, by omega, by unfold maxLen; omega, ?_, ?_⟩⟩, hgr, hsz2⟩
    · rw [List.length_append, List.length_take, List.length_drop, hl]; omega
    · simp [hnl, hlen, Builtin.zeroCells, Value.cells]; omega
    · simpa using hfin
  have q12 : n - (n - 1) = 1 := by omega
  have hclr : (Builtin.clear_ #[22] 0 #[.slice (some ⟨g, (n - 1) * 3, none⟩) 1 (cap - (n - 1))]).run Try.prog (w.drew.setCells g (i * 3) (xs.drop ((i + 1) * 3))) = .ok (.tuple #[]) ((w.drew.setCells g (i * 3) (xs.drop ((i + 1) * 3))).setCells g ((n - 1) * 3) (Builtin.zeroCells (Value.cells (.agg #[.string ⟨#[]⟩, .string ⟨#[]⟩, .string ⟨#[]⟩])) 1).toList) :=
    run_clear_cells _ 22 32 0 (.agg #[.string ⟨#[]⟩, .string ⟨#[]⟩, .string ⟨#[]⟩]) Try.underlying22 zero_ent (by simp [Value.cells, Value.oneCell']) g ((n - 1) * 3) 1 (cap - (n - 1)) (by decide)
      (fun j hj => by rw [hb1.cell]; simp [Value.cells] at hj; simp [hnl, hlen]; omega) (fun j hj => hb1.free _)
  have HPost := Lib.hid hpost
  have HCell := Lib.hid hcell
  have HSome := Lib.hid hsome
  have HB1 := Lib.hid hb1
  have HNL := Lib.hid hnl
  have H1 := Lib.hid h1
  clear hpost hcell hsome hb1 hb2 hfin hnl hsz2 hgr h1 htk hl hblk
  by_cases hce : cap = i + 1
  · obtain rfl : n = i + 1 := by omega
    subst hce
    have hnl0 := HNL.out
    have hp0 := HPost.out
    simp only [Nat.add_sub_cancel, Nat.sub_self, Nat.zero_mul, Nat.add_sub_cancel_left] at hnl0 hp0 hclr q11 q12
    have HNL0 := Lib.hid hnl0
    have HP0 := Lib.hid hp0
    clear hnl0 hp0 q5 q11 q12
    have q5 : ((i : Int) == (i : Int) + 1) = false := by simp; omega
    go_enter Try.func35, Try.ntmps35
    go_wp2_with fail
    go_region_law (refine step_append_room rfl (.tmp 22) (.tmp 25) 22 rfl 32 i0 3 Try.underlying22 hi0 hz1 g 0 i (i + 1) (by simp [Act.eval, Act.put]) ⟨g, 0, none⟩ 0 0 (xs.drop ((i + 1) * 3)) (by simp [Act.eval, Act.put]) (by rw [HNL0.out, Nat.zero_mul]) (fun j u hj => absurd (List.getElem?_eq_some_iff.1 hj).1 (by rw [HNL0.out]; omega)) (fun u hu => H1.out u (List.mem_of_mem_drop hu)) (by omega) (fun j hj => absurd hj (by rw [HNL0.out]; omega)) ?_)
    go_wp2_with fail
    go_returns
    exact HP0.out
  · go_enter Try.func35, Try.ntmps35
    go_wp2_with fail
    go_region_law (refine step_append_room rfl (.tmp 22) (.tmp 25) 22 rfl 32 i0 3 Try.underlying22 hi0 hz1 g 0 i cap (by simp [Act.eval, Act.put]) ⟨g, (i + 1) * 3, none⟩ (n - (i + 1)) (cap - (i + 1)) (xs.drop ((i + 1) * 3)) (by simp [Act.eval, Act.put]) (HNL.out.trans (by omega)) (fun j u hj => by rw [addr_add]; exact HCell.out _ u (by rw [List.getElem?_drop] at hj; exact hj)) (fun u hu => H1.out u (List.mem_of_mem_drop hu)) (by omega) (fun j hj => by rw [HNL.out] at hj; have := HSome.out (0 + i * 3 + j) (by omega); (first | exact this | (rw [Nat.mul_one]; exact this))) ?_)
    go_wp2_with fail
    go_returns
    exact HPost.out

theorem flat_erase (l : List OEntry) (i : Nat) (hi : i < l.length) : (entE.flat l).take (i * 3) ++ (entE.flat l).drop ((i + 1) * 3) = entE.flat (l.eraseIdx i) := by
  have h1 := entE.flat_take l i
  have h2 := entE.flat_drop l (i + 1)
  rw [show entE.size = 3 from rfl] at h1 h2
  rw [h1, h2, ← Enc.flat_append, List.eraseIdx_eq_take_drop_succ]
theorem deleteL_ent (g cap i base : Nat) (l : List OEntry) (n : Nat) (w : World) (hown : entE.Own w base 32 (.slice (some ⟨g, 0, none⟩) n cap) l) (hn : n = l.length) (hi : i < l.length) :
    Calls Try.prog 35 #[.slice (some ⟨g, 0, none⟩) n cap, .int .i64 i, .int .i64 ((i : Int) + 1)] w fun e w' => e = .returned (.slice (some ⟨g, 0, none⟩) (n - 1) cap) ∧ entE.Own w' base 32 (.slice (some ⟨g, 0, none⟩) (n - 1) cap) (l.eraseIdx i) ∧ w.grownBy w' (some g) ∧ w'.heap.size = w.heap.size := by
  subst hn
  refine (delete_ent g l.length cap i base (entE.flat l) w hown hi (fun u hu => entE.flat_one l u hu)).mono ?_
  rintro e w' ⟨rfl, h1, h2, h3⟩
  refine ⟨rfl, ?_, h2, h3⟩
  show w'.ownsRow _ _ _ _ (l.eraseIdx i).length (entE.flat (l.eraseIdx i))
  rw [← flat_erase l i hi, List.length_eraseIdx, if_pos hi]
  exact h1

end Go.Proofs.Ytekjoddmohjpbaa
