/- What flow.Over returns, for every input. -/
import Derived.Test.YtfhcciepaangiaaFlow3
set_option linter.unusedVariables false
set_option linter.unusedSimpArgs false
namespace Go.Proofs.Ytfhcciepaangiaa
open Go.RowKit
attribute [local go_sem ↓] Go.wp_at_zero Go.wp_at_succ

theorem info_cap : (Try.prog.info? 64).map (fun i => (i.zero, i.size, i.bytes)) = some (some (.agg #[.int .i64 0, .int .i64 0, .int .i64 0]), 3, 24) := by kernel_rfl

set_option maxRecDepth 100000 in
set_option maxHeartbeats 400000 in
theorem clone_cap (a : Option Addr) (n c : Nat) (f : Nat → Value) (w : World) (hm : n ≤ maxLen) (hby : n * 24 ≤ 140737488355328) (hnil : a = none → n = 0)
    (hR : RowAt w 3 a n f) (h1 : ∀ k, k < n * 3 → (f k).oneCell' = true) :
    Calls Try.prog 32 #[.slice a n c] w (Made w 64 3 n ((List.range (n * 3)).map f) (a = none)) := by
  obtain ⟨i0, hi, hz0, hz1, hz2⟩ := info_parts info_cap
  have hq := fun wx => Lib.run_eql_slice_nil (P := Try.prog) wx 22 64 a n c 0 0 Try.underlying22
  cases a with
  | none =>
    obtain rfl := hnil rfl
    simp only [Option.isNone] at hq
    go_enter Try.func32, Try.ntmps32
    go_wp2_with fail
    go_returns
    exact ⟨_, rfl, by simpa using World.ownsRow_nil _ _ _ _, Below.refl _ _, by simp⟩
  | some ad =>
    simp only [Option.isNone] at hq
    have HR := Lib.hid hR; clear hR
    have H1 := Lib.hid h1; clear h1
    have HN := Lib.hid hnil; clear hnil
    have HM := Lib.hid hm; clear hm
    go_enter Try.func32, Try.ntmps32
    go_wp2_with (at_builtin; refine wpList_append_own _ rfl _ _ 22 rfl w.heap.size 64 i0 (.agg #[.int .i64 0, .int .i64 0, .int .i64 0]) 3 24 Try.underlying22 hi hz0 hz1 hz2 rfl (by decide) _ 0 [] rfl ?c0 ad n c ((List.range (n * 3)).map f) rfl ?c1 ?c2 ?c3 ?c4 ?c5 ?c6 ?_)
    case c0 => exact ⟨by simp, .inr ⟨_, _, _, rfl, Nat.le_refl _, by exact Blk.new _ _, Nat.le_refl _, by decide, rfl, rfl⟩⟩
    case c1 => simp
    case c2 =>
      intro j u hj
      simp only [List.getElem?_map, Option.map_eq_some_iff] at hj
      obtain ⟨k, hk, rfl⟩ := hj
      have hk2 := List.getElem?_eq_some_iff.1 hk
      obtain ⟨hk3, hk4⟩ := hk2
      rw [List.length_range] at hk3
      rw [List.getElem_range] at hk4
      subst hk4
      obtain ⟨b, off, he, hlt, hc⟩ := HR.out (by rcases Nat.eq_zero_or_pos n with h | h; (subst h; omega); exact h)
      obtain rfl := Option.some.inj he
      rw [addr_add, World.cell?_alloc_lt _ _ _ hlt]
      exact hc j hk3
    case c3 =>
      intro u hu
      obtain ⟨k, hk, rfl⟩ := List.mem_map.1 hu
      exact H1.out k (by simpa using hk)
    case c4 => simpa using HM.out
    case c5 => simpa using hby
    case c6 => simp
    intro v' w1 hown hgrow hiff
    have HI := Lib.hid hiff; clear hiff
    go_wp2_with fail
    go_returns
    refine ⟨v', rfl, by simpa using hown, ?_, ?_⟩
    · exact ((Below.refl _ _).alloc (Nat.le_refl _) _).grown hgrow (by simp) (by intro k hk; simp [Value.ownBlock] at hk; omega)
    · exact ⟨fun h => absurd h HI.out, fun h => absurd h (by simp)⟩

/- Over: the capacities of which more times are used than they have slots -/
def overTo (n : Nat) (F T M : Nat → Int) (nt : Nat) (z : Nat → Int) : Nat → List Int
  | 0 => []
  | k + 1 => overTo n F T M nt z k ++ if M k < cnt n F T z k nt then [(k : Int)] else []
theorem over_len (n : Nat) (F T M : Nat → Int) (nt : Nat) (z : Nat → Int) (k : Nat) : (overTo n F T M nt z k).length ≤ k := by
  induction k with
  | zero => exact Nat.le_refl _
  | succ k ih => rw [overTo, List.length_append]; split <;> simp <;> omega
def overL (n : Nat) (F T M : Nat → Int) (nt : Nat) (z : Nat → Int) : List Int := if demE n F T M nt z = 0 then overTo n F T M nt z n else []

set_option maxRecDepth 100000 in
set_option maxHeartbeats 2000000 in
theorem fover_any (a : Option Addr) (n c : Nat) (F T M : Nat → Int) (at_ : Option Addr) (nt ct : Nat) (z : Nat → Int) (w : World) (hm : n ≤ maxLen) (hR : CapsAt w a n F T M) (hmt : nt ≤ maxLen) (hRt : IntsAt w at_ nt z) :
    Calls Try.prog 12 #[.slice a n c, .slice at_ nt ct] w (MadeInts w 3 (overL n F T M nt z) [.int .i64 (demE n F T M nt z)]) := by
  have HRow := Lib.hid hR; clear hR
  obtain ⟨i0, hi, hz0, hz1, hz2⟩ := info_parts info_int
  go_enter Try.func12, Try.ntmps12
  go_wp2_with fail
  refine (fdemand_any a n c F T M at_ nt ct z _ hm HRow.out hmt hRt).mono ?_
  rintro e w1 ⟨v, rfl, hown, hB⟩
  clear hRt
  have hz := hB.size
  generalize hk : demE n F T M nt z = k
  have HK := Lib.hid hk; clear hk
  generalize hdn : demN n F T M nt z = dn
  clear hdn
  unfold maxLen at hm
  by_cases h0 : k = 0
  · subst h0
    have hg : fchk n F T M = 0 ∧ n ≤ 256 := by
      have h := HK.out
      unfold demE at h
      by_cases hc : fchk n F T M = 0
      · exact ⟨hc, (fchk_good hc).1⟩
      · rw [if_pos hc] at h; exact absurd h hc
    have hn := hg.2
    clear hg
    rw [(dem_yes HK.out).1] at hown
    obtain ⟨a1, c1, hv, -, -, -, hI⟩ := ints_at hown
    rw [cnts_len] at hv hI
    subst hv
    have HI := Lib.hid hI; clear hI hown
    go_wp2_with fail
    go_loopw [9, 24] (fun s i wr => ∃ j : Nat, j ≤ n ∧ i = .int .i64 j ∧ Hid (wr.ownsRow w1.heap.size 3 1 s (overTo n F T M nt z j).length (ints (overTo n F T M nt z j))) ∧ Below w1.heap.size w1 wr) (fun _ i _ => n - (intOf i).toNat)
    case atStart => exact ⟨0, by omega, rfl, Lib.hid (World.ownsRow_nil _ _ _ _), by go_grown⟩
    case round =>
      obtain ⟨j, hj, rfl, HO, hBr⟩ := hrel
      have hzr := hBr.size
      have hB2 := hB.trans (hBr.mono hz)
      by_cases hlt : j < n
      · obtain ⟨b, off, rfl, hbl, hcell⟩ := (HRow.out.below hB2 (Nat.le_refl _)) (by omega)
        obtain ⟨e1, e2, e3⟩ := caps_cells hcell j hlt
        have HC := Lib.hid hcell; clear hcell
        obtain ⟨b', off', rfl, hbl', hcell'⟩ := (HI.out.below hBr (Nat.le_refl _)) (by omega)
        have e4 := int_cell hcell' j hlt
        rw [cnts_nth hlt] at e4
        have HC' := Lib.hid hcell'; clear hcell'
        have hol := over_len n F T M nt z j
        by_cases hov : M j < cnt n F T z j nt
        · have HV : Hid (overTo n F T M nt z (j + 1) = overTo n F T M nt z j ++ [(j : Int)]) := Lib.hid (by rw [overTo, if_pos hov])
          have hd : decide (M j < cnt n F T z j nt) = true := by simpa using hov
          go_wp2_with fail
          go_quiet (fail)
          go_wp2_with (at_builtin; refine wpList_append_own _ rfl _ _ 23 rfl w1.heap.size 3 i0 (.int .i64 0) 1 8 Try.underlying23 hi hz0 hz1 hz2 rfl (by decide) _ (overTo n F T M nt z j).length (ints (overTo n F T M nt z j)) rfl ?c0 _ 1 1 [.int .i64 (j : Int)] rfl rfl ?c2 ?c3 ?c4 ?c5 ?c6 ?_)
          case c0 => exact ownsRow_after HO.out (by repeat' (first | exact Below.refl _ _ | assumption | (with_reducible refine Below.alloc ?_ ?_ _) | (with_reducible refine below_drewN ?_ _) | (with_reducible refine Below.drew ?_) | (with_reducible refine Below.setCell ?_ ?_ _) | go_size))
          case c2 => exact World.news_of_block (cs := #[.int .i64 (j : Int)]) (t := 3) (fr := (0, 0)) (by exact Blk.newAt _ _ _ (by first | rfl | (simp; done)))
          case c3 => simp [Value.oneCell']
          case c4 => (unfold maxLen; omega)
          case c5 => omega
          case c6 => go_size
          intro v' w2 hown2 hgrow hiff
          have hB2 := Below.grown (B := w1.heap.size) (a := w1) (by repeat' (first | exact Below.refl _ _ | assumption | (with_reducible refine Below.alloc ?_ ?_ _) | (with_reducible refine below_drewN ?_ _) | (with_reducible refine Below.drew ?_) | (with_reducible refine Below.setCell ?_ ?_ _) | go_size)) hgrow (by go_size) (ownsRow_blockBelow HO.out)
          have hO2 := Lib.hid hown2
          have HIff := Lib.hid hiff
          clear hown2 hgrow hiff
          go_wp2_with fail
          go_roundw
          case rel => exact ⟨j + 1, by omega, by go_num, Lib.hid (by rw [HV.out, ints_snoc, List.length_append]; exact hO2.out), hB2⟩
          case measure => simp [intOf]; omega
        · have HV : Hid (overTo n F T M nt z (j + 1) = overTo n F T M nt z j) := Lib.hid (by rw [overTo, if_neg hov, List.append_nil])
          have hd : decide (M j < cnt n F T z j nt) = false := by simpa using hov
          go_wp2_with fail
          go_quiet (fail)
          go_wp2_with fail
          go_roundw
          case rel => exact ⟨j + 1, by omega, by go_num, Lib.hid (by rw [HV.out]; exact ownsRow_after HO.out (by repeat' (first | exact Below.refl _ _ | assumption | (with_reducible refine Below.alloc ?_ ?_ _) | (with_reducible refine below_drewN ?_ _) | (with_reducible refine Below.drew ?_) | (with_reducible refine Below.setCell ?_ ?_ _) | go_size))), (by repeat' (first | exact Below.refl _ _ | assumption | (with_reducible refine Below.alloc ?_ ?_ _) | (with_reducible refine below_drewN ?_ _) | (with_reducible refine Below.drew ?_) | (with_reducible refine Below.setCell ?_ ?_ _) | go_size))⟩
          case measure => simp [intOf]; omega
      · obtain rfl : j = n := by omega
        go_wp2_with fail
        go_returns
        rw [HK.out]
        exact ⟨_, rfl, by unfold overL; rw [if_pos HK.out]; exact ownsRow_base HO.out hz, hB2⟩
  · have hk' : (k != 0) = true := by simpa using h0
    have H0 := Lib.hid h0; clear h0
    obtain ⟨a1, c1, hv, -, -, -, -⟩ := ints_at hown
    subst hv
    go_wp2_with fail
    go_returns
    rw [HK.out]
    exact nilMade (by unfold overL; rw [HK.out, if_neg H0.out]) hB

end Go.Proofs.Ytfhcciepaangiaa
