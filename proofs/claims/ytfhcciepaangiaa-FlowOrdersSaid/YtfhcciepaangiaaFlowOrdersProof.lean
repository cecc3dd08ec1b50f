/- The order of times does not matter: FlowOrders returns true at every input, and its arguments read afterwards as before. Conditions: none. -/
import Derived.Test.YtfhcciepaangiaaFlowOrders
import Derived.Test.YtfhcciepaangiaaFlowReads
import Derived.WalkKit
import Derived.ProofKit
import Derived.OpenShut
import Derived.ShutString
import Derived.ChangeOld
import Derived.Below
import Derived.Lib.SmallJoins
namespace Go.Proofs.Ytfhcciepaangiaa.liftFlowOrders
open Go.Proofs.Ytfhcciepaangiaa
open Go.ChangeShapes Go.WideShapes Go.ChangeAt Go.RowKit Go.Joins
open Go.ChangeMaps (open_string shut_string)
set_option linter.unusedVariables false

theorem own : ownKnob Try.prog.godebug = none := by kernel_rfl
theorem laidOut : laidOutB Try.prog = true := by kernel_rfl
theorem room_int {n c : Nat} (h : n ≤ c ∧ c * Try.prog.bytesOf 3 ≤ reachBytes) : n * 8 ≤ 140737488355328 := by
  have hb : Try.prog.bytesOf 3 = 8 := by kernel_rfl
  have hr := reachBytes_lt
  rw [hb] at h
  omega
set_option maxRecDepth 100000 in
theorem lifted (os : Os) (started : os.Started) (H : Type) (enc : TypeId × Value → H) :
    ReturnsInHanded {} Try.checked os 4 .any (Rows.flowOrdersSpec.pre6 enc Try.prog Try.f4 Rows.flowOrdersRow.domain false) (Rows.flowOrdersSpec.post enc Try.prog Try.f4 false true false false) := by
  refine returnsInHanded_of_change_sized (C := Try.checked) own started (by kernel_rfl) Try.func4
    (ChangeSpec.witness6 (enc := enc) (C := Try.checked) false ⟨#[], #[.slice none 0 0, .slice none 0 0], []⟩ 8 (by kernel_rfl) (by kernel_rfl) (by kernel_rfl) (by kernel_rfl)) ?_
  intro W base args ds gs before hval0 hW hcnd hsz0 _
  have hsz : (DataW.weightsEach Try.prog (Try.f4.params.toList ++ Rows.flowOrdersSpec.plain.varTypes Try.prog) (ds ++ gs)).all (· ≤ reachBytes) = true := hsz0
  clear hsz0
  have hval : ∀ (j : Nat) t v, Try.f4.params[j]? = some t → args[j]? = some v → Value.okWide Try.prog W .any base t v := hval0
  have hW' := hW
  obtain ⟨p, q, hA0, hV, rfl, hfz, hnd⟩ := hW
  have hA : DataW.TrodAll enc Try.prog W 0 (fun _ => true) true Try.f4.params.toList args.toList ds p := hA0
  rw [Try.params4] at hA hval
  obtain ⟨v0, vs0, d0, ds0, p0, q0, hargs, rfl, rfl, k0, r0⟩ := trodAll_cons hA
  obtain ⟨v1, vs1, d1, ds1, p1, q1, rfl, rfl, rfl, k1, r1⟩ := trodAll_cons r0
  obtain ⟨rfl, rfl, rfl⟩ := trodAll_nil r1
  obtain rfl : args = #[v0, v1] := by cases args; simp_all
  obtain ⟨rfl, rfl⟩ := trodVars_none hV
  have lt0 : ∀ x ∈ p0, x.block < W.heap.size := by obtain ⟨m, hm⟩ := k0; exact DataW.trod_lt m _ _ _ hm
  have o0 := hval 0 22 v0 rfl rfl
  have lt1 : ∀ x ∈ p1, x.block < W.heap.size := by obtain ⟨m, hm⟩ := k1; exact DataW.trod_lt m _ _ _ hm
  have o1 := hval 1 23 v1 rfl rfl
  have room1 := fun a n c (h : v1 = .slice a n c) => slice_room (j := 1) (a := a) (n := n) (c := c) (p := p1) hsz (by rw [Try.params4]; rfl) rfl Try.underlying23 (h ▸ k1)
  obtain ⟨a0, n0, c0, rfl⟩ := okWide_slice Try.underlying22 o0
  obtain ⟨hn0, hc0, hnil0, F0, T0, M0, hR0⟩ := reads_caps (reads_arg (.sl (.pair (.pair .int (.pair .int .unit)) (.pair .int .unit))) (by kernel_rfl) k0)
  obtain ⟨a1, n1, c1, rfl⟩ := okWide_slice Try.underlying23 o1
  obtain ⟨hn1, hc1, hnil1, z1, hR1, hw1⟩ := reads_ints (reads_arg (.sl .int) (by kernel_rfl) k1)
  clear hA0 hval0
  refine (forders_any a0 n0 c0 F0 T0 M0 a1 n1 c1 z1 W (Nat.le_trans hn0 hc0) hR0 (Nat.le_trans hn1 hc1) (room_int (room1 a1 n1 c1 rfl)) hnil1 hR1).mono fun e W' ⟨he, bel⟩ => ?_
  subst he
  exact ⟨_, rfl, _, _, _, [], _, [], hW', trodAll_mk1 (shut_bool Try.underlying4 _), (trodAll_cons_mk (Below.trod laidOut (by kernel_rfl) (of_decide_eq_true (by kernel_rfl)) k0 bel lt0) (trodAll_cons_mk (Below.trod laidOut (by kernel_rfl) (of_decide_eq_true (by kernel_rfl)) k1 bel lt1) trodAll_mk0)), rfl, bel.frame _, fun h => by cases h⟩

theorem over : Rows.flowOrdersRow.holds Try.pinned (OpenSpec.ofChange Rows.flowOrdersSpec) :=
  OpenClaim.holds_of_wide 4 Try.f4 rfl rfl rfl rfl rfl rfl rfl ⟨rfl, rfl, rfl, rfl, rfl⟩ rfl rfl rfl rfl rfl (by kernel_rfl) Try.func4 (by kernel_rfl)
    (of_decide_eq_true (by kernel_rfl)) (by unfold Func.isWrapper; first | (rw [if_pos (by decide +kernel)]; kernel_rfl) | (rw [if_neg (by decide +kernel)]; exact ⟨rfl, rfl⟩))
    (fun os started H enc _ => lifted os started H enc)
end Go.Proofs.Ytfhcciepaangiaa.liftFlowOrders

namespace Go.Proofs.Ytfhcciepaangiaa
/-- The order of times does not matter: FlowOrders returns true at every input, and its arguments read afterwards as before. Conditions: none. -/
theorem flowOrders_holds : Rows.FlowOrdersSaid := liftFlowOrders.over
#print axioms flowOrders_holds
end Go.Proofs.Ytfhcciepaangiaa
