/- Times are valid exactly if all of them are, later: WakeShifts returns true at every input, and its arguments read afterwards as before. Conditions: none. -/
import Derived.Test.YtfmodgffhbljoaaWakeS
import Derived.Test.YtfmodgffhbljoaaOpen
import Derived.WalkKit
import Derived.ProofKit
import Derived.OpenShut
import Derived.ShutString
import Derived.ChangeOld
import Derived.Below
import Derived.Lib.SmallJoins
namespace Go.Proofs.Ytfmodgffhbljoaa.liftWakeShifts
open Go.Proofs.Ytfmodgffhbljoaa
open Go.ChangeShapes Go.WideShapes Go.ChangeAt Go.RowKit Go.Joins
open Go.ChangeMaps (open_string shut_string)
set_option linter.unusedVariables false

theorem own : ownKnob Try.prog.godebug = none := by kernel_rfl
theorem laidOut : laidOutB Try.prog = true := by kernel_rfl
theorem room_int {n c : Nat} (h : n ≤ c ∧ c * Try.prog.bytesOf 3 ≤ reachBytes) : n * 8 ≤ 140737488355328 := by
  have hb : Try.prog.bytesOf 3 = 8 := by kernel_rfl
  have hr := reachBytes_lt
  rw [hb] at h
  omega
set_option maxRecDepth 100000 in
theorem lifted (os : Os) (started : os.Started) (H : Type) (enc : TypeId × Value → H) :
    ReturnsInHanded {} Try.checked os 4 .any (Rows.wakeShiftsSpec.pre6 enc Try.prog Try.f4 Rows.wakeShiftsRow.domain false) (Rows.wakeShiftsSpec.post enc Try.prog Try.f4 false true false false) := by
  refine returnsInHanded_of_change_sized (C := Try.checked) own started (by kernel_rfl) Try.func4
    (ChangeSpec.witness6 (enc := enc) (C := Try.checked) false ⟨#[], #[.agg #[.int .i64 0, .int .i64 0, .int .i64 0, .int .i64 0, .int .i64 0, .int .i64 0, .int .i64 0, .int .i64 0, .int .i64 0, .int .i64 0, .int .i64 0, .int .i64 0, .int .i64 0, .int .i64 0, .int .i64 0, .int .i64 0], .slice none 0 0, .slice none 0 0, .int .i64 0], []⟩ 8 (by kernel_rfl) (by kernel_rfl) (by kernel_rfl) (by kernel_rfl)) ?_
  intro W base args ds gs before hval0 hW hcnd hsz0 _
  have hsz : (DataW.weightsEach Try.prog (Try.f4.params.toList ++ Rows.wakeShiftsSpec.plain.varTypes Try.prog) (ds ++ gs)).all (· ≤ reachBytes) = true := hsz0
  clear hsz0
  have hval : ∀ (j : Nat) t v, Try.f4.params[j]? = some t → args[j]? = some v → Value.okWide Try.prog W .any base t v := hval0
  have hW' := hW
  obtain ⟨p, q, hA0, hV, rfl, hfz, hnd⟩ := hW
  have hA : DataW.TrodAll enc Try.prog W 0 (fun _ => true) true Try.f4.params.toList args.toList ds p := hA0
  rw [Try.params4] at hA hval
  obtain ⟨v0, vs0, d0, ds0, p0, q0, hargs, rfl, rfl, k0, r0⟩ := trodAll_cons hA
  obtain ⟨v1, vs1, d1, ds1, p1, q1, rfl, rfl, rfl, k1, r1⟩ := trodAll_cons r0
  obtain ⟨v2, vs2, d2, ds2, p2, q2, rfl, rfl, rfl, k2, r2⟩ := trodAll_cons r1
  obtain ⟨v3, vs3, d3, ds3, p3, q3, rfl, rfl, rfl, k3, r3⟩ := trodAll_cons r2
  obtain ⟨rfl, rfl, rfl⟩ := trodAll_nil r3
  obtain rfl : args = #[v0, v1, v2, v3] := by cases args; simp_all
  obtain ⟨rfl, rfl⟩ := trodVars_none hV
  have lt0 : ∀ x ∈ p0, x.block < W.heap.size := by obtain ⟨m, hm⟩ := k0; exact DataW.trod_lt m _ _ _ hm
  have o0 := hval 0 24 v0 rfl rfl
  have lt1 : ∀ x ∈ p1, x.block < W.heap.size := by obtain ⟨m, hm⟩ := k1; exact DataW.trod_lt m _ _ _ hm
  have o1 := hval 1 25 v1 rfl rfl
  have lt2 : ∀ x ∈ p2, x.block < W.heap.size := by obtain ⟨m, hm⟩ := k2; exact DataW.trod_lt m _ _ _ hm
  have o2 := hval 2 25 v2 rfl rfl
  have lt3 : ∀ x ∈ p3, x.block < W.heap.size := by obtain ⟨m, hm⟩ := k3; exact DataW.trod_lt m _ _ _ hm
  have o3 := hval 3 3 v3 rfl rfl
  have room1 := fun a n c (h : v1 = .slice a n c) => slice_room (j := 1) (a := a) (n := n) (c := c) (p := p1) hsz (by rw [Try.params4]; rfl) rfl Try.underlying25 (h ▸ k1)
  have room2 := fun a n c (h : v2 = .slice a n c) => slice_room (j := 2) (a := a) (n := n) (c := c) (p := p2) hsz (by rw [Try.params4]; rfl) rfl Try.underlying25 (h ▸ k2)
  obtain ⟨x0, rfl⟩ := open_tab Try.underlying24 (by kernel_rfl) (by kernel_rfl) Try.underlying3 o0
  obtain ⟨a1, n1, c1, rfl⟩ := okWide_slice Try.underlying25 o1
  obtain ⟨z1, hn1, hc1, hR1, hnil1, hw1⟩ := open_introw Try.underlying25 Try.underlying3 (by kernel_rfl) k1
  obtain ⟨a2, n2, c2, rfl⟩ := okWide_slice Try.underlying25 o2
  obtain ⟨z2, hn2, hc2, hR2, hnil2, hw2⟩ := open_introw Try.underlying25 Try.underlying3 (by kernel_rfl) k2
  obtain ⟨a3, rfl, -, -, b3⟩ := open_int Try.underlying3 o3 k3
  clear hA0 hval0
  refine (shifts_any x0 a1 n1 c1 z1 a2 n2 c2 z2 a3 W (Nat.le_trans hn1 hc1) (Nat.le_trans hn2 hc2) (room_int (room2 a2 n2 c2 rfl)) hnil2 hR1 hR2).mono fun e W' ⟨he, bel⟩ => ?_
  subst he
  exact ⟨_, rfl, _, _, _, [], _, [], hW', trodAll_mk1 (shut_bool Try.underlying4 _), (trodAll_cons_mk (Below.trod laidOut (by kernel_rfl) (of_decide_eq_true (by kernel_rfl)) k0 bel lt0) (trodAll_cons_mk (Below.trod laidOut (by kernel_rfl) (of_decide_eq_true (by kernel_rfl)) k1 bel lt1) (trodAll_cons_mk (Below.trod laidOut (by kernel_rfl) (of_decide_eq_true (by kernel_rfl)) k2 bel lt2) (trodAll_cons_mk (Below.trod laidOut (by kernel_rfl) (of_decide_eq_true (by kernel_rfl)) k3 bel lt3) trodAll_mk0)))), rfl, bel.frame _, fun h => by cases h⟩

theorem over : Rows.wakeShiftsRow.holds Try.pinned (OpenSpec.ofChange Rows.wakeShiftsSpec) :=
  OpenClaim.holds_of_wide 4 Try.f4 rfl rfl rfl rfl rfl rfl rfl ⟨rfl, rfl, rfl, rfl, rfl⟩ rfl rfl rfl rfl rfl (by kernel_rfl) Try.func4 (by kernel_rfl)
    (of_decide_eq_true (by kernel_rfl)) (by unfold Func.isWrapper; first | (rw [if_pos (by decide +kernel)]; kernel_rfl) | (rw [if_neg (by decide +kernel)]; exact ⟨rfl, rfl⟩))
    (fun os started H enc _ => lifted os started H enc)
end Go.Proofs.Ytfmodgffhbljoaa.liftWakeShifts

namespace Go.Proofs.Ytfmodgffhbljoaa
/-- Times are valid exactly if all of them are, later: WakeShifts returns true at every input, and its arguments read afterwards as before. Conditions: none. -/
theorem wakeShifts_holds : Rows.WakeShiftsSaid := liftWakeShifts.over
#print axioms wakeShifts_holds
end Go.Proofs.Ytfmodgffhbljoaa
