/- What slices.Clone returns for slices of integers. -/
import Derived.Test.YtfhcciepaangiaaBase
set_option linter.unusedVariables false
set_option linter.unusedSimpArgs false
namespace Go.Proofs.Ytfhcciepaangiaa
open Go.RowKit

theorem info_int : (Try.prog.info? 3).map (fun i => (i.zero, i.size, i.bytes)) = some (some (.int .i64 0), 1, 8) := by kernel_rfl

set_option maxRecDepth 100000 in
set_option maxHeartbeats 400000 in
theorem clone_int (a : Option Addr) (n c : Nat) (f : Nat → Value) (w : World) (hm : n ≤ maxLen) (hby : n * 8 ≤ 140737488355328) (hnil : a = none → n = 0)
    (hR : RowAt w 1 a n f) (h1 : ∀ k, k < n * 1 → (f k).oneCell' = true) :
    Calls Try.prog 14 #[.slice a n c] w (Made w 3 1 n ((List.range (n * 1)).map f) (a = none)) := by
  obtain ⟨i0, hi, hz0, hz1, hz2⟩ := info_parts info_int
  have hq := fun wx => Lib.run_eql_slice_nil (P := Try.prog) wx 23 3 a n c 0 0 Try.underlying23
  cases a with
  | none =>
    obtain rfl := hnil rfl
    simp only [Option.isNone] at hq
    go_enter Try.func14, Try.ntmps14
    go_wp2_with fail
    go_returns
    exact ⟨_, rfl, by simpa using World.ownsRow_nil _ _ _ _, Below.refl _ _, by simp⟩
  | some ad =>
    simp only [Option.isNone] at hq
    have HR := Lib.hid hR; clear hR
    have H1 := Lib.hid h1; clear h1
    have HN := Lib.hid hnil; clear hnil
    have HM := Lib.hid hm; clear hm
    go_enter Try.func14, Try.ntmps14
    go_wp2_with (at_builtin; refine wpList_append_own _ rfl _ _ 23 rfl w.heap.size 3 i0 (.int .i64 0) 1 8 Try.underlying23 hi hz0 hz1 hz2 rfl (by decide) _ 0 [] rfl ?c0 ad n c ((List.range (n * 1)).map f) rfl ?c1 ?c2 ?c3 ?c4 ?c5 ?c6 ?_)
    case c0 => exact ⟨by simp, .inr ⟨_, _, _, rfl, Nat.le_refl _, by exact Blk.new _ _, Nat.le_refl _, by decide, rfl, rfl⟩⟩
    case c1 => simp
    case c2 =>
      intro j u hj
      simp only [List.getElem?_map, Option.map_eq_some_iff] at hj
      obtain ⟨k, hk, rfl⟩ := hj
      have hk2 := List.getElem?_eq_some_iff.1 hk
      obtain ⟨hk3, hk4⟩ := hk2
      rw [List.length_range] at hk3
      rw [List.getElem_range] at hk4
      subst hk4
      obtain ⟨b, off, he, hlt, hc⟩ := HR.out (by rcases Nat.eq_zero_or_pos n with h | h; (subst h; omega); exact h)
      obtain rfl := Option.some.inj he
      rw [addr_add, World.cell?_alloc_lt _ _ _ hlt]
      exact hc j hk3
    case c3 =>
      intro u hu
      obtain ⟨k, hk, rfl⟩ := List.mem_map.1 hu
      exact H1.out k (by simpa using hk)
    case c4 => simpa using HM.out
    case c5 => simpa using hby
    case c6 => simp
    intro v' w1 hown hgrow hiff
    have HI := Lib.hid hiff; clear hiff
    go_wp2_with fail
    go_returns
    refine ⟨v', rfl, by simpa using hown, ?_, ?_⟩
    · exact ((Below.refl _ _).alloc (Nat.le_refl _) _).grown hgrow (by simp) (by intro k hk; simp [Value.ownBlock] at hk; omega)
    · exact ⟨fun h => absurd h HI.out, fun h => absurd h (by simp)⟩

end Go.Proofs.Ytfhcciepaangiaa
