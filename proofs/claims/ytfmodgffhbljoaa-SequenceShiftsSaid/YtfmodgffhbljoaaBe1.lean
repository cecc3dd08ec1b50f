/- sequence.orders: all orders are visited, each in its turn. -/
import Derived.Test.YtfmodgffhbljoaaKn
import Derived.Test.YtfmodgffhbljoaaX1G
set_option linter.unusedVariables false
set_option linter.unusedSimpArgs false
namespace Go.Proofs.Ytfmodgffhbljoaa
open Go.RowKit Go.Shelf
attribute [local go_sem] Oper.semAt_some

theorem infoI : (Try.prog.info? 3).map (fun i => (i.zero, i.size, i.bytes)) = some (some (.int .i64 0), 1, 8) := by kernel_rfl
/- a row of integers that the run owns, as a plain list -/
theorem row_rel {no : Nat → Prop} {base : Nat} {w : World} {v : Value} {r : List Int} (hn : ∀ b, no b → b < base) (hrow : w.ownsRow base 3 1 v r.length (r.map (Value.int .i64))) : VRel (cxA no w) (lstA intE r) v := by
  rcases hrow.2 with ⟨hv0, hl0⟩ | ⟨gb, cap, cur, rfl, hbg, hg, hle, hmx, hsz, htk⟩
  · rw [hv0, List.eq_nil_of_length_eq_zero hl0]
    exact .lst0 none 0 false (fun h => by cases h) (Nat.zero_le _) (fun _ => rfl)
  · refine .lst (b := gb) (o := 0) (vs := r.map (Value.int .i64)) ⟨heap_lt hg, cxA_own _, fun q => ?_⟩ ?_ (fun k u hu => ?_) hle (fun h => by cases h) hmx
    · have := hn gb q
      omega
    · have : ∀ r : List Int, Rels (cxA no w) (encs intE r) (r.map (Value.int .i64)) := by
        intro r
        induction r with
        | nil => exact .nil
        | cons x r ih => rw [encs_cons]; exact .cons (.sc _ rfl) ih
      exact this r
    · have := hrow.cells (g := gb) rfl k u hu
      rw [Nat.zero_add]
      rwa [show (⟨gb, 0, none⟩ : Addr).add k = ⟨gb, k, none⟩ by unfold Addr.add; split <;> simp_all] at this
theorem encs_int {c : Cx} : ∀ {r : List Int} {vs : List Value}, Rels c (encs intE r) vs → vs = r.map (Value.int .i64)
  | [], vs, h => by cases h; rfl
  | x :: r, vs, h => by
    rw [encs_cons] at h
    cases h with
    | cons h t => cases h; rw [encs_int t]; rfl
set_option maxRecDepth 100000 in
set_option maxHeartbeats 2000000 in
theorem clone_row {no : Nat → Prop} {w : World} {o : List Int} {v : Value} (hr : VRel (cxA no w) (lstA intE o) v) (ho : o.length ≤ 1000) (n : Nat) :
    CallsIn Fence.wide n Try.prog 14 #[v] w (fun e w' => ∃ v', e = .returned v' ∧ Kept w w' ∧ w'.ownsRow w.heap.size 3 1 v' o.length (o.map (Value.int .i64))) := by
  obtain ⟨i0, hi, hzz⟩ := Option.map_eq_some_iff.1 infoI
  simp only [Prod.mk.injEq] at hzz
  obtain ⟨hz0, hz1, hz2⟩ := hzz
  have key : ∃ a cap, v = .slice a o.length cap ∧ (a = none → o.length = 0) ∧ ∀ ad, a = some ad → ∀ k u, (o.map (Value.int .i64))[k]? = some u → w.cell? (ad.add k) = some u ∧ ad.block < w.heap.size := by
    unfold lstA at hr
    generalize hcs : encs intE o = cs at hr
    generalize hq : o.length = q at hr
    cases hr with
    | lst0 a cap ex he hm hn =>
      have h0 : o = [] := List.eq_nil_of_length_eq_zero hq
      subst h0
      exact ⟨a, cap, rfl, fun _ => rfl, fun ad _ k u hu => by simp at hu⟩
    | lst hb h hc hn he hm =>
      rename_i b off vs cap
      subst hcs
      have hv := encs_int h
      subst hv
      refine ⟨_, _, rfl, (fun h => by cases h), fun ad had k u hu => ?_⟩
      cases had
      refine ⟨?_, hb.1⟩
      have := hc k u hu
      rwa [show (⟨b, off, none⟩ : Addr).add k = ⟨b, off + k, none⟩ by unfold Addr.add; split <;> simp_all]
  obtain ⟨a, cap, rfl, hnil, hcell⟩ := key
  have hq := fun wx => Lib.run_eql_slice_nil (P := Try.prog) wx 25 3 a o.length cap 0 0 Try.underlying25
  refine callsIn_of_wp Try.func14 rfl trivial ?_ rfl
  simp only [Try.ntmps14, List.size_toArray, List.length_cons, List.length_nil, Nat.reduceAdd, Nat.reduceSub, Array.replicate_succ, Array.replicate_zero, List.push_toArray, List.append_toArray, List.nil_append, List.cons_append]
  cases a with
  | none =>
    have h0 := hnil rfl
    have h1 : o = [] := List.eq_nil_of_length_eq_zero h0
    subst h1
    simp only [Option.isNone, List.length_nil] at hq
    clear hcell
    gi_wp2
    go_ret
    exact ⟨_, rfl, Kept.refl _, by simpa using World.ownsRow_nil _ _ _ _⟩
  | some ad =>
    simp only [Option.isNone] at hq
    have hc := hcell ad rfl
    clear hcell hnil
    gi_wp2_with (gi_at_builtin; refine append_d _ rfl _ _ 25 rfl w.heap.size 3 i0 (.int .i64 0) 1 8 Try.underlying25 hi hz0 hz1 hz2 rfl (by decide) _ 0 [] rfl ?c0 ad o.length cap (o.map (Value.int .i64)) rfl ?c1 ?c2 ?c3 ?c4 ?c5 ?c6 ?_)
    case c0 => exact ⟨by simp, .inr ⟨_, _, _, rfl, Nat.le_refl _, World.alloc_heap_new _ _, Nat.le_refl _, by decide, rfl, rfl⟩⟩
    case c1 => simp
    case c2 =>
      intro j u hj
      obtain ⟨q1, q2⟩ := hc j u hj
      rw [← q1]
      have hb : (ad.add j).block = ad.block := by unfold Addr.add; split <;> rfl
      exact World.cell?_alloc_lt _ _ _ (by rw [hb]; exact q2)
    case c3 =>
      intro u hu
      obtain ⟨k, hk, rfl⟩ := List.mem_map.1 hu
      rfl
    case c4 => simp only [maxLen]; omega
    case c5 => omega
    case c6 => simp
    intro v' w1 hown hgrow hiff hdr
    gi_wp2
    go_ret
    refine ⟨v', rfl, ⟨hgrow.os, hgrow.tape, hgrow.output, by have := hgrow.size; simp at this; omega, fun k hk => (hgrow.block k (by simp; omega) (fun e => by simp [Value.ownBlock] at e; omega)).trans (Below.heap_alloc _ _ k hk), dr_le hdr⟩, by simpa using hown⟩
end Go.Proofs.Ytfmodgffhbljoaa
