/- slices.Clone of integers: a row of the run's own. -/
import Derived.Test.YtlgbioidkbeanaaBb
set_option linter.unusedVariables false
set_option linter.unusedSimpArgs false
namespace Go.Proofs.Ytlgbioidkbeanaa
open Go.RowKit Go.Shelf
attribute [local go_sem] Oper.semAt_some

theorem infoI : (Try.prog.info? 3).map (fun i => (i.zero, i.size, i.bytes)) = some (some (.int .i64 0), 1, 8) := by kernel_rfl
set_option maxRecDepth 100000 in
set_option maxHeartbeats 2000000 in
theorem clone_row {no : Nat → Prop} {w : World} {o : List Int} {v : Value} (hr : VRel (cxA no w) (lstA intE o) v) (ho : o.length ≤ 1000) (n : Nat) :
    CallsIn Fence.wide n Try.prog 30 #[v] w (fun e w' => ∃ v', e = .returned v' ∧ Kept w w' ∧ w'.ownsRow w.heap.size 3 1 v' o.length (o.map (Value.int .i64))) := by
  obtain ⟨i0, hi, hzz⟩ := Option.map_eq_some_iff.1 infoI
  simp only [Prod.mk.injEq] at hzz
  obtain ⟨hz0, hz1, hz2⟩ := hzz
  have key : ∃ a cap, v = .slice a o.length cap ∧ (a = none → o.length = 0) ∧ ∀ ad, a = some ad → ∀ k u, (o.map (Value.int .i64))[k]? = some u → w.cell? (ad.add k) = some u ∧ ad.block < w.heap.size := by
    unfold lstA at hr
    generalize hcs : encs intE o = cs at hr
    generalize hq : o.length = q at hr
    cases hr with
    | lst0 a cap ex he hm hn =>
      have h0 : o = [] := List.eq_nil_of_length_eq_zero hq
      subst h0
      exact ⟨a, cap, rfl, fun _ => rfl, fun ad _ k u hu => by simp at hu⟩
    | lst hb h hc hn he hm =>
      rename_i b off vs cap
      subst hcs
      have hv := encs_int h
      subst hv
      refine ⟨_, _, rfl, (fun h => by cases h), fun ad had k u hu => ?_⟩
      cases had
      refine ⟨?_, hb.1⟩
      have := hc k u hu
      rwa [show (⟨b, off, none⟩ : Addr).add k = ⟨b, off + k, none⟩ by unfold Addr.add; split <;> simp_all]
  obtain ⟨a, cap, rfl, hnil, hcell⟩ := key
  have hq := fun wx => Lib.run_eql_slice_nil (P := Try.prog) wx 27 3 a o.length cap 0 0 Try.underlying27
  refine callsIn_of_wp Try.func30 rfl trivial ?_ rfl
  simp only [Try.ntmps30, List.size_toArray, List.length_cons, List.length_nil, Nat.reduceAdd, Nat.reduceSub, Array.replicate_succ, Array.replicate_zero, List.push_toArray, List.append_toArray, List.nil_append, List.cons_append]
  cases a with
  | none =>
    have h0 := hnil rfl
    have h1 : o = [] := List.eq_nil_of_length_eq_zero h0
    subst h1
    simp only [Option.isNone, List.length_nil] at hq
    clear hcell
    gi_wp2
    go_ret
    exact ⟨_, rfl, Kept.refl _, by simpa using World.ownsRow_nil _ _ _ _⟩
  | some ad =>
    simp only [Option.isNone] at hq
    have hc := hcell ad rfl
    clear hcell hnil
    gi_wp2_with (gi_at_builtin; refine append_d _ rfl _ _ 27 rfl w.heap.size 3 i0 (.int .i64 0) 1 8 Try.underlying27 hi hz0 hz1 hz2 rfl (by decide) _ 0 [] rfl ?c0 ad o.length cap (o.map (Value.int .i64)) rfl ?c1 ?c2 ?c3 ?c4 ?c5 ?c6 ?_)
    case c0 => exact ⟨by simp, .inr ⟨_, _, _, rfl, Nat.le_refl _, World.alloc_heap_new _ _, Nat.le_refl _, by decide, rfl, rfl⟩⟩
    case c1 => simp
    case c2 =>
      intro j u hj
      obtain ⟨q1, q2⟩ := hc j u hj
      rw [← q1]
      have hb : (ad.add j).block = ad.block := by unfold Addr.add; split <;> rfl
      exact World.cell?_alloc_lt _ _ _ (by rw [hb]; exact q2)
    case c3 =>
      intro u hu
      obtain ⟨k, hk, rfl⟩ := List.mem_map.1 hu
      rfl
    case c4 => simp only [maxLen]; omega
    case c5 => omega
    case c6 => simp
    intro v' w1 hown hgrow hiff hdr
    gi_wp2
    go_ret
    refine ⟨v', rfl, ⟨hgrow.os, hgrow.tape, hgrow.output, by have := hgrow.size; simp at this; omega, fun k hk => (hgrow.block k (by simp; omega) (fun e => by simp [Value.ownBlock] at e; omega)).trans (Below.heap_alloc _ _ k hk), dr_le hdr⟩, by simpa using hown⟩
end Go.Proofs.Ytlgbioidkbeanaa
