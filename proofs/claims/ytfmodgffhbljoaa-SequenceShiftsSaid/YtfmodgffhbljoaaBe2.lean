/- sequence.orders: all orders are visited, each in its turn. -/
import Derived.Test.YtfmodgffhbljoaaBe1
set_option linter.unusedVariables false
set_option linter.unusedSimpArgs false
namespace Go.Proofs.Ytfmodgffhbljoaa
open Go.RowKit Go.Shelf
attribute [local go_sem] Oper.semAt_some

theorem slice_len {c : Cx} {o : List Int} {v : Value} (hr : VRel c (lstA intE o) v) : ∃ a cap, v = .slice a o.length cap := by
  unfold lstA at hr
  generalize hcs : encs intE o = cs at hr
  generalize hq : o.length = q at hr
  cases hr with
  | lst0 a cap ex he hm hn => exact ⟨_, _, rfl⟩
  | lst hb h hc hn he hm => exact ⟨_, _, rfl⟩
theorem bool_of {c : Cx} {b : Bool} {v : Value} (h : VRel c (boolA b) v) : v = .bool b := by cases h; rfl
theorem new1 (w : World) (x : Value) (T : TypeId) : ∀ j u, ([x] : List Value)[j]? = some u → (w.alloc (.cells #[x] T)).cell? ((⟨w.heap.size, 0, none⟩ : Addr).add j) = some u := by
  intro j u hu
  have hh : (w.alloc (.cells #[x] T)).heap[w.heap.size]? = some (.cells #[x] T (0, 0)) := World.alloc_heap_new w _
  rw [show (⟨w.heap.size, 0, none⟩ : Addr).add j = ⟨w.heap.size, j, none⟩ by unfold Addr.add; split <;> simp_all]
  match j, hu with
  | 0, hu => simp only [World.cell?, hh]; simpa using hu
  | j + 1, hu => simp at hu
theorem kept_grown {w w3 w4 : World} {o : Obj} {row : Option Nat} (hk : Kept w w3) (hg : (w3.alloc o).grownBy w4 row) (hr : ∀ b, row = some b → w.heap.size ≤ b) (hd : w3.drawn ≤ w4.drawn) : Kept w w4 := by
  have hs := hk.size
  refine ⟨hg.os.trans hk.os, hg.tape.trans hk.tape, hg.output.trans hk.output, by have := hg.size; simp at this; omega, fun k hlt => ?_, Nat.le_trans hk.drawn (dr_le hd)⟩
  exact (hg.block k (by simp; omega) (fun e => by have := hr k e.symm; omega)).trans ((Below.heap_alloc _ _ k (by omega)).trans (hk.blk k hlt))
set_option maxRecDepth 100000 in
set_option maxHeartbeats 4000000 in
theorem orders_in {σ : Type} {N : Nat} (hN : N ≤ 8) {no : Nat → Prop} {caps : Array Value} {vis : σ → List Int → Option σ} {J : σ → World → Prop} (hJ : ∀ s A B, J s A → Kept A B → J s B) (hG : ∀ w, GlobOk KK.gl (cxA no w))
    (hC : ∀ (o : List Int) (i : Int), o.length ≤ 8 → Says Try.prog KK.gl 65 [lstA intE o, intA i] (boolA (decide (i ∈ o))))
    (hV : ∀ (n : Nat) (s r : σ) (o : List Int) (v : Value) (w : World), o.length = N → (∀ b, no b → b < w.heap.size) → VRel (cxA no w) (lstA intE o) v → J s w → vis s o = some r → CallsIn Fence.wide n Try.prog 52 (#[v] ++ caps) w fun e w' => (∃ u, e = .returned u) ∧ J r w' ∧ Kno no w w') :
    ∀ (k n : Nat) (o : List Int) (s r : σ) (v : Value) (w : World), o.length + k = N → (∀ b, no b → b < w.heap.size) → VRel (cxA no w) (lstA intE o) v → J s w → ordR N vis k o s = some r →
      CallsIn Fence.wide n Try.prog 51 #[.int .i64 N, v, .func (.func 52) #[] caps] w fun e w' => e = .returned (.tuple #[]) ∧ J r w' ∧ Kno no w w'
  | 0, n, o, s, r, v, w, hk, hn, hr, hs, hg => by
    have hlen : o.length = N := by omega
    obtain ⟨a, cap, hve⟩ := slice_len hr
    rw [hlen] at hve
    subst hve
    have hv := fun n => hV n s r o _ w hlen hn hr hs hg
    clear hV hC hJ hG
    refine callsIn_of_wp Try.func51 rfl trivial ?_ rfl
    simp only [Try.ntmps51, List.size_toArray, List.length_cons, List.length_nil, Nat.reduceAdd, Nat.reduceSub, Array.replicate_succ, Array.replicate_zero, List.push_toArray, List.append_toArray, List.nil_append, List.cons_append]
    gi_wp2_with (refine ⟨trivial, (fun h => by cases h), ?_⟩; refine (hv _).mono ?_; rintro e w1 ⟨⟨u, rfl⟩, h1, h2⟩)
    refine bodyPost_ret (results_none rfl _ _ _) rfl ?_
    exact ⟨rfl, h1, h2⟩
  | k + 1, n, o, s, r, v, w, hk, hn, hr, hs, hg => by
    have IH := orders_in hN hJ hG hC hV k
    obtain ⟨a, cap, rfl⟩ := slice_len hr
    clear hV
    have hlen : ¬ o.length = N := by omega
    have hbq : ((o.length : Int) == (N : Int)) = false := beq_eq_false_iff_ne.2 (by omega)
    unfold ordR at hg
    have hcon := fun i => hC o i (by omega)
    clear hC
    obtain ⟨i0, hi, hzz⟩ := Option.map_eq_some_iff.1 infoI
    simp only [Prod.mk.injEq] at hzz
    obtain ⟨hz0, hz1, hz2⟩ := hzz
    generalize hfd : (fun (s : σ) (i : Nat) => if (i : Int) ∈ o then some s else ordR N vis k (o ++ [(i : Int)]) s) = fd at hg
    refine callsIn_of_wp Try.func51 rfl trivial ?_ rfl
    simp only [Try.ntmps51, List.size_toArray, List.length_cons, List.length_nil, Nat.reduceAdd, Nat.reduceSub, Array.replicate_succ, Array.replicate_zero, List.push_toArray, List.append_toArray, List.nil_append, List.cons_append]
    gi_wp2
    gi_loopw [15] (fun i wr => ∃ (j : Nat) (sj : σ), j ≤ N ∧ i = .int .i64 j ∧ J sj wr ∧ Kno no w wr ∧ ((List.range N).drop j).foldlM fd sj = some r) (fun i _ => N - (intOf i).toNat)
    case atStart => exact ⟨0, s, Nat.zero_le _, rfl, hs, Kno.refl _ _, hg⟩
    case round =>
      obtain ⟨j, sj, hj, rfl, hJs, hkn, hfo⟩ := hrel
      by_cases hlt : j < N
      · have hlt' : (j : Int) < (N : Int) := by omega
        have hn1 : ∀ b, no b → b < wr.heap.size := fun b hb => Nat.lt_of_lt_of_le (hn b hb) hkn.size
        have hr1 := hkn.rel hr (lstA_clean _ _)
        rw [List.drop_eq_getElem_cons (by simpa using hlt), List.foldlM_cons, List.getElem_range] at hfo
        obtain ⟨s1, hs1, hfo2⟩ := Option.bind_eq_some_iff.1 hfo
        clear hfo
        have hc := says_kn (hcon (j : Int)) hn1 (hG wr) (.cons hr1 (.cons (.sc _ rfl) .nil))
        by_cases hm : (j : Int) ∈ o
        · have e : s1 = sj := by rw [← hfd] at hs1; simp only [if_pos hm, Option.some.injEq] at hs1; exact hs1.symm
          subst e
          gi_wp2_with (refine ⟨trivial, (fun h => by cases h), ?_⟩; gi_at_call 65; refine (hc _).mono ?_; rintro e w1 ⟨v1, rfl, hk1, hv1⟩; obtain rfl := bool_of hv1; rw [decide_eq_true hm])
          go_roundw
          case rel => exact ⟨j + 1, s1, hlt, by rw [show (j : Int) + 1 = ((j + 1 : Nat) : Int) by omega], hJ _ _ _ hJs hk1, hkn.trans (hk1.kno no), hfo2⟩
          case measure => simp [intOf]; omega
        · have hs1 : ordR N vis k (o ++ [(j : Int)]) sj = some s1 := by rw [← hfd] at hs1; simpa only [if_neg hm] using hs1
          gi_wp2_with (first
            | (refine ⟨trivial, (fun h => by cases h), ?_⟩; gi_at_call 65; refine (hc _).mono ?_; rintro e w1 ⟨v1, rfl, hk1, hv1⟩; obtain rfl := bool_of hv1; rw [decide_eq_false hm]; have hr2 := (hk1.kno no).rel hr1 (lstA_clean _ _); have hcl := clone_row hr2 (by omega))
            | (refine ⟨trivial, (fun h => by cases h), ?_⟩; gi_at_call 14; refine (hcl _).mono ?_; rintro e w2 ⟨v2, rfl, hk2, hrow2⟩)
            | (gi_at_builtin; refine append_d _ rfl _ _ 25 rfl w1.heap.size 3 i0 (.int .i64 0) 1 8 Try.underlying25 hi hz0 hz1 hz2 rfl (by decide) v2 o.length (o.map (Value.int .i64)) rfl (hrow2.alloc _) ⟨w2.heap.size, 0, none⟩ 1 1 [.int .i64 (j : Int)] rfl rfl (new1 _ _ _) (by intro u hu; simp at hu; subst hu; rfl) (by simp only [maxLen]; omega) (by omega) (by have := hk2.size; simp; omega) ?_; intro v3 w3 hown3 hgrow3 _ hdr3)
            | (refine ⟨trivial, (fun h => by cases h), ?_⟩; gi_at_call 51))
          have hkk : Kept wr w3 := kept_grown (hk1.trans hk2) hgrow3 (fun b hb => by
            have := hrow2.2
            rcases this with ⟨q, -⟩ | ⟨g, c3, cur, q, q2, -⟩
            · rw [q] at hb; cases hb
            · rw [q] at hb; cases hb; exact Nat.le_trans hk1.size q2) hdr3
          have hown3 : w3.ownsRow w1.heap.size 3 1 v3 (o ++ [(j : Int)]).length ((o ++ [(j : Int)]).map (Value.int .i64)) := by
            have e1 : (o ++ [(j : Int)]).length = o.length + 1 := by simp
            have e2 : (o ++ [(j : Int)]).map (Value.int .i64) = o.map (Value.int .i64) ++ [.int .i64 (j : Int)] := by simp
            rw [e1, e2]; exact hown3
          have hn3 : ∀ b, no b → b < w3.heap.size := fun b hb => Nat.lt_of_lt_of_le (hn1 b hb) hkk.size
          have hrel3 : VRel (cxA no w3) (lstA intE (o ++ [(j : Int)])) v3 := row_rel (fun b hb => Nat.lt_of_lt_of_le (hn1 b hb) hk1.size) hown3
          have hcall := IH (n - 1) (o ++ [(j : Int)]) sj s1 v3 w3 (by simp; omega) hn3 hrel3 (hJ _ _ _ hJs hkk) hs1
          refine hcall.mono ?_
          rintro e w4 ⟨rfl, hJ4, hk4⟩
          gi_wp2
          go_roundw
          case rel => exact ⟨j + 1, s1, hlt, by rw [show (j : Int) + 1 = ((j + 1 : Nat) : Int) by omega], hJ4, (hkn.trans (hkk.kno no)).trans hk4, hfo2⟩
          case measure => simp [intOf]; omega
      · obtain rfl : j = N := by omega
        have hlt' : ¬ (j : Int) < (j : Int) := by omega
        gi_wp2
        go_end0
        have e : sj = r := by
          rw [List.drop_eq_nil_of_le (by simp)] at hfo
          exact Option.some.inj hfo
        rw [← e]
        exact ⟨rfl, hJs, hkn⟩
end Go.Proofs.Ytfmodgffhbljoaa
