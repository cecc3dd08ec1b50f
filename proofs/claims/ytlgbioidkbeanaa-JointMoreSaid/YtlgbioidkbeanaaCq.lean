/- slices.Clone of options, and of rows of options: a row of the run's own. -/
import Derived.Test.YtlgbioidkbeanaaKo
set_option linter.unusedVariables false
set_option linter.unusedSimpArgs false
namespace Go.Proofs.Ytlgbioidkbeanaa
open Go.RowKit Go.Shelf
attribute [local go_sem] Oper.semAt_some

/- what a list's value is, cell by cell -/
theorem lst_cells {α : Type} {E : En α} {no : Nat → Prop} {w : World} {o : List α} {v : Value} (hr : VRel (cxA no w) (lstA E o) v) : ∃ a cap cs, v = .slice a o.length cap ∧ (a = none → o.length = 0) ∧ cs.length = o.length * E.size ∧ Rels (cxA no w) (encs E o) cs ∧ ∀ ad, a = some ad → ∀ k u, cs[k]? = some u → w.cell? (ad.add k) = some u ∧ ad.block < w.heap.size := by
  unfold lstA at hr
  generalize hcs : encs E o = es at hr
  generalize hq : o.length = q at hr
  cases hr with
  | lst0 a cap ex he hm hn =>
    have h0 : o = [] := List.eq_nil_of_length_eq_zero hq
    subst h0
    exact ⟨a, cap, [], rfl, fun _ => rfl, by simp, hcs ▸ .nil, fun ad _ k u hu => by simp at hu⟩
  | lst hb h hc hn he hm =>
    rename_i b off vs cap
    refine ⟨_, _, vs, rfl, (fun h => by cases h), ?_, h, fun ad had k u hu => ?_⟩
    · have h1 := h.length
      rw [← h1, ← hcs, encs_length, hq]
    · cases had
      refine ⟨?_, hb.1⟩
      have := hc k u hu
      rwa [show (⟨b, off, none⟩ : Addr).add k = ⟨b, off + k, none⟩ by unfold Addr.add; split <;> simp_all]
theorem one_cells {c : Cx} : ∀ {xs : List AV} {vs : List Value}, Rels c xs vs → (∀ x ∈ xs, isCell x = true) → ∀ u ∈ vs, u.oneCell' = true
  | [], _, .nil, _, u, hu => by simp at hu
  | x :: xs, _, .cons h t, q, u, hu => by
    rcases List.mem_cons.1 hu with rfl | hu
    · exact isCell_one h (q x (by simp))
    · exact one_cells t (fun x hx => q x (by simp [hx])) u hu
theorem cells_all {α : Type} {E : En α} (h : ∀ x, ∀ a ∈ E.enc x, isCell a = true) (l : List α) : ∀ a ∈ encs E l, isCell a = true := by
  induction l with
  | nil => intro a ha; simp [encs] at ha
  | cons x l ih =>
    intro a ha
    rw [encs_cons] at ha
    rcases List.mem_append.1 ha with q | q
    · exact h x a q
    · exact ih a q
/- a row of the run's own as a list -/
theorem own_rel {α : Type} {E : En α} {no : Nat → Prop} {base : Nat} {T : TypeId} {w : World} {l : List α} {v : Value} {cs : List Value} (h : w.ownsRow base T E.size v l.length cs) (hr : Rels (cxA no w) (encs E l) cs) (hn : ∀ k, no k → k < base) : VRel (cxA no w) (lstA E l) v := by
  rcases h.2 with ⟨hv0, hl0⟩ | ⟨gb, cap, cur, rfl, hbg, hg, hle, hmx, hsz, htk⟩
  · rw [hv0, List.eq_nil_of_length_eq_zero hl0]
    exact .lst0 none 0 false (fun h => by cases h) (Nat.zero_le _) (fun _ => rfl)
  · refine .lst (b := gb) (o := 0) (vs := cs) ⟨heap_lt hg, cxA_own _, fun q => by have := hn gb q; omega⟩ hr (fun k u hu => ?_) hle (fun h => by cases h) hmx
    have := h.cells (g := gb) rfl k u hu
    rw [Nat.zero_add]
    rwa [show (⟨gb, 0, none⟩ : Addr).add k = ⟨gb, k, none⟩ by unfold Addr.add; split <;> simp_all] at this
theorem infoOpt : ((Try.prog.info? 39).bind fun i => i.zero.map fun z => (z.cells.size, i.size, i.bytes)) = some (2, 2, 32) := by kernel_rfl
set_option maxRecDepth 100000 in
set_option maxHeartbeats 2000000 in
theorem cloneOpt {no : Nat → Prop} {w : World} {o : List TJointOption} {v : Value} (hr : VRel (cxA no w) (lstA TJointOption.E o) v) (ho : o.length * 32 ≤ 140737488355328) (ho2 : o.length ≤ 4611686018427387904) (n : Nat) :
    CallsIn Fence.wide n Try.prog 15 #[v] w (fun e w' => ∃ v' cs, e = .returned v' ∧ Kept w w' ∧ w'.ownsRow w.heap.size 39 2 v' o.length cs ∧ Rels (cxA no w) (encs TJointOption.E o) cs) := by
  obtain ⟨i0, hi, hzz⟩ := Option.bind_eq_some_iff.1 infoOpt
  obtain ⟨z0, hz0, hzz⟩ := Option.map_eq_some_iff.1 hzz
  simp only [Prod.mk.injEq] at hzz
  obtain ⟨hzc, hz1, hz2⟩ := hzz
  obtain ⟨a, cap, cs, rfl, hnil, hlen, hrel, hcell⟩ := lst_cells hr
  have hone := one_cells hrel (cells_all (by intro x a ha; simp only [TJointOption.E, List.mem_cons, List.not_mem_nil, or_false] at ha; rcases ha with rfl | rfl <;> rfl) o)
  have hlen : cs.length = o.length * 2 := hlen
  have hq := fun wx => Lib.run_eql_slice_nil (P := Try.prog) wx 43 39 a o.length cap 0 0 Try.underlying43
  refine callsIn_of_wp Try.func15 rfl trivial ?_ rfl
  simp only [Try.ntmps15, List.size_toArray, List.length_cons, List.length_nil, Nat.reduceAdd, Nat.reduceSub, Array.replicate_succ, Array.replicate_zero, List.push_toArray, List.append_toArray, List.nil_append, List.cons_append]
  cases a with
  | none =>
    have h0 := hnil rfl
    have h1 : o = [] := List.eq_nil_of_length_eq_zero h0
    subst h1
    simp only [Option.isNone, List.length_nil] at hq
    have hcs : cs = [] := List.eq_nil_of_length_eq_zero (by simpa using hlen)
    have HR := Lib.hid hrel
    clear hcell hrel hr
    gi_wp2
    go_ret
    refine ⟨_, rfl, Kept.refl _, cs, ?_, HR.out⟩
    rw [hcs]
    exact World.ownsRow_nil _ _ _ _
  | some ad =>
    simp only [Option.isNone] at hq
    have hc := hcell ad rfl
    have HR := Lib.hid hrel
    clear hcell hnil hrel hr
    gi_wp2_with (gi_at_builtin; refine append_d _ rfl _ _ 43 rfl w.heap.size 39 i0 z0 2 32 Try.underlying43 hi hz0 hz1 hz2 hzc (by decide) _ 0 [] rfl ?c0 ad o.length cap cs rfl ?c1 ?c2 ?c3 ?c4 ?c5 ?c6 ?_)
    case c0 => exact ⟨by simp, .inr ⟨_, _, _, rfl, Nat.le_refl _, World.alloc_heap_new _ _, Nat.le_refl _, by decide, rfl, rfl⟩⟩
    case c1 => exact hlen
    case c2 =>
      intro j u hj
      obtain ⟨q1, q2⟩ := hc j u hj
      rw [← q1]
      have hb : (ad.add j).block = ad.block := by unfold Addr.add; split <;> rfl
      exact World.cell?_alloc_lt _ _ _ (by rw [hb]; exact q2)
    case c3 => exact hone
    case c4 => simp only [maxLen]; omega
    case c5 => omega
    case c6 => simp
    intro v' w1 hown hgrow hiff hdr
    gi_wp2
    go_ret
    refine ⟨v', cs, rfl, ⟨hgrow.os, hgrow.tape, hgrow.output, by have := hgrow.size; simp at this; omega, fun k hk => (hgrow.block k (by simp; omega) (fun e => by simp [Value.ownBlock] at e; omega)).trans (Below.heap_alloc _ _ k hk), dr_le hdr⟩, by simpa using hown, HR.out⟩
theorem infoRow : ((Try.prog.info? 43).bind fun i => i.zero.map fun z => (z.cells.size, i.size, i.bytes)) = some (1, 1, 24) := by kernel_rfl
set_option maxRecDepth 100000 in
set_option maxHeartbeats 2000000 in
theorem cloneRow {no : Nat → Prop} {w : World} {o : List (List TJointOption)} {v : Value} (hr : VRel (cxA no w) (lstA (lstE TJointOption.E) o) v) (ho : o.length * 24 ≤ 140737488355328) (ho2 : o.length ≤ 4611686018427387904) (n : Nat) :
    CallsIn Fence.wide n Try.prog 13 #[v] w (fun e w' => ∃ v' cs, e = .returned v' ∧ Kept w w' ∧ w'.ownsRow w.heap.size 43 1 v' o.length cs ∧ Rels (cxA no w) (encs (lstE TJointOption.E) o) cs) := by
  obtain ⟨i0, hi, hzz⟩ := Option.bind_eq_some_iff.1 infoRow
  obtain ⟨z0, hz0, hzz⟩ := Option.map_eq_some_iff.1 hzz
  simp only [Prod.mk.injEq] at hzz
  obtain ⟨hzc, hz1, hz2⟩ := hzz
  obtain ⟨a, cap, cs, rfl, hnil, hlen, hrel, hcell⟩ := lst_cells hr
  have hone := one_cells hrel (cells_all (by intro x a ha; simp only [lstE, List.mem_cons, List.not_mem_nil, or_false] at ha; rw [ha]; rfl) o)
  have hlen : cs.length = o.length * 1 := hlen
  have hq := fun wx => Lib.run_eql_slice_nil (P := Try.prog) wx 22 43 a o.length cap 0 0 Try.underlying22
  refine callsIn_of_wp Try.func13 rfl trivial ?_ rfl
  simp only [Try.ntmps13, List.size_toArray, List.length_cons, List.length_nil, Nat.reduceAdd, Nat.reduceSub, Array.replicate_succ, Array.replicate_zero, List.push_toArray, List.append_toArray, List.nil_append, List.cons_append]
  cases a with
  | none =>
    have h0 := hnil rfl
    have h1 : o = [] := List.eq_nil_of_length_eq_zero h0
    subst h1
    simp only [Option.isNone, List.length_nil] at hq
    have hcs : cs = [] := List.eq_nil_of_length_eq_zero (by simpa using hlen)
    have HR := Lib.hid hrel
    clear hcell hrel hr
    gi_wp2
    go_ret
    refine ⟨_, rfl, Kept.refl _, cs, ?_, HR.out⟩
    rw [hcs]
    exact World.ownsRow_nil _ _ _ _
  | some ad =>
    simp only [Option.isNone] at hq
    have hc := hcell ad rfl
    have HR := Lib.hid hrel
    clear hcell hnil hrel hr
    gi_wp2_with (gi_at_builtin; refine append_d _ rfl _ _ 22 rfl w.heap.size 43 i0 z0 1 24 Try.underlying22 hi hz0 hz1 hz2 hzc (by decide) _ 0 [] rfl ?c0 ad o.length cap cs rfl ?c1 ?c2 ?c3 ?c4 ?c5 ?c6 ?_)
    case c0 => exact ⟨by simp, .inr ⟨_, _, _, rfl, Nat.le_refl _, World.alloc_heap_new _ _, Nat.le_refl _, by decide, rfl, rfl⟩⟩
    case c1 => exact hlen
    case c2 =>
      intro j u hj
      obtain ⟨q1, q2⟩ := hc j u hj
      rw [← q1]
      have hb : (ad.add j).block = ad.block := by unfold Addr.add; split <;> rfl
      exact World.cell?_alloc_lt _ _ _ (by rw [hb]; exact q2)
    case c3 => exact hone
    case c4 => simp only [maxLen]; omega
    case c5 => omega
    case c6 => simp
    intro v' w1 hown hgrow hiff hdr
    gi_wp2
    go_ret
    refine ⟨v', cs, rfl, ⟨hgrow.os, hgrow.tape, hgrow.output, by have := hgrow.size; simp at this; omega, fun k hk => (hgrow.block k (by simp; omega) (fun e => by simp [Value.ownBlock] at e; omega)).trans (Below.heap_alloc _ _ k hk), dr_le hdr⟩, by simpa using hown, HR.out⟩
end Go.Proofs.Ytlgbioidkbeanaa
