/- task.with: the first flight that the last one of a choice clashes with. -/
import Derived.Test.YtlgbioidkbeanaaJm
import Derived.Test.YtlgbioidkbeanaaBb
set_option linter.unusedVariables false
set_option linter.unusedSimpArgs false
namespace Go.Proofs.Ytlgbioidkbeanaa
open Go.RowKit Go.Shelf

theorem getD_of {l : List Int} {i : Nat} {x : Int} (h : l[i]? = some x) : l.getD i 0 = x := by simp [List.getD, h]
set_option maxRecDepth 100000 in
set_option maxHeartbeats 4000000 in
theorem with_calls {no : Nat → Prop} {w : World} {c : List Int} {v : Value} (hr : VRel (cxA no w) (lstA intE c) v) {K : Nat} (hK : c.length = K + 1) (hK6 : K ≤ 100) {lv : Value} {mb n : Nat} {f : Int → Int → Int → Int → Bool} {cl : Nat → Nat → Nat → Nat → Bool} (hM : MapIs w mb n f)
    (hwf : ∀ x ∈ c, 0 ≤ x ∧ x ≤ 1000) (hf : ∀ i, i < K → f (i : Int) (K : Int) (c.getD i 0) (c.getD K 0) = cl i K (c.getD i 0).toNat (c.getD K 0).toNat) :
    Calls Try.prog 43 #[.agg #[lv, .map (some mb)], v] w fun e w' => e = .returned (.int .i64 (withF cl c)) ∧ Kept w w' := by
  obtain ⟨bo, oo, co, rfl, hbo, -, hcell⟩ := lst_open hr (by intro e; rw [e] at hK; simp at hK)
  obtain ⟨W1, hW1⟩ : ∃ W1, w.alloc (.cells #[lv, .map (some mb)] 63) = W1 := ⟨_, rfl⟩
  have hk1 : Kept w W1 := by rw [← hW1]; exact (Kept.refl _).al _
  have hb1 : W1.heap[w.heap.size]? = some (.cells #[lv, .map (some mb)] 63 (0, 0)) := by rw [← hW1]; exact World.alloc_heap_new _ _
  have e1 : IntKind.i64.wrap (((K + 1 : Nat) : Int) - 1) = (K : Int) := by rw [wrap64 (by omega) (by omega)]; omega
  have HF := Lib.hid hf
  have HW := Lib.hid hwf
  have HC := Lib.hid hcell
  clear hf hwf hcell
  rw [hK]
  go_enter Try.func43, Try.ntmps43
  go_wp2_with fail
  go_loopw [11] (fun i wr => ∃ j : Nat, j ≤ K ∧ i = .int .i64 j ∧ Kept W1 wr ∧ Hid (∀ i', i' < j → cl i' K (c.getD i' 0).toNat (c.getD K 0).toNat = false)) (fun i _ => K - (intOf i).toNat)
  case atStart => exact ⟨0, Nat.zero_le _, rfl, Kept.refl _, Lib.hid (fun i h => absurd h (Nat.not_lt_zero _))⟩
  case round =>
    obtain ⟨j, hj, rfl, hkr, HA⟩ := hrel
    by_cases hlt : j < K
    · have hkw : Kept w wr := hk1.trans hkr
      obtain ⟨xj, hxj⟩ : ∃ x, c[j]? = some x := ⟨_, List.getElem?_eq_getElem (by omega)⟩
      obtain ⟨xK, hxK⟩ : ∃ x, c[K]? = some x := ⟨_, List.getElem?_eq_getElem (by omega)⟩
      have c1 : wr.cell? ⟨bo, oo + j, none⟩ = some (.int .i64 xj) := by
        have := HC.out j xj hxj 0 (.int .i64 xj) (by decide) rfl
        rw [← this]
        show wr.cell? ⟨bo, oo + j, none⟩ = w.cell? ⟨bo, oo + (j * 1 + 0), none⟩
        rw [Nat.mul_one, Nat.add_zero]
        exact hkw.cell hbo
      have c2 : wr.cell? ⟨bo, oo + K, none⟩ = some (.int .i64 xK) := by
        have := HC.out K xK hxK 0 (.int .i64 xK) (by decide) rfl
        rw [← this]
        show wr.cell? ⟨bo, oo + K, none⟩ = w.cell? ⟨bo, oo + (K * 1 + 0), none⟩
        rw [Nat.mul_one, Nat.add_zero]
        exact hkw.cell hbo
      have c3 : wr.cell? ⟨w.heap.size, 1, none⟩ = some (.map (some mb)) := by
        have h1 : wr.heap[w.heap.size]? = _ := (hkr.blk _ (heap_lt hb1)).trans hb1
        simp [World.cell?, h1]
      have d1 : (j : Int) < ((K + 1 : Nat) : Int) := by omega
      have d2 : (K : Int) < ((K + 1 : Nat) : Int) := by omega
      have d3 : (j : Int) < (K : Int) := by omega
      have w1 := HW.out xj (List.mem_of_getElem? hxj)
      have w2 := HW.out xK (List.mem_of_getElem? hxK)
      have hl : ∀ n, (Instr.lookup 61 (.map (some mb)) (.agg #[.int .i64 (j : Int), .int .i64 (K : Int), .int .i64 xj, .int .i64 xK]) false).run Try.prog (wr.drewN n) = .ok (.bool (f (j : Int) (K : Int) xj xK)) (wr.drewN n) := fun n =>
        (hM.kept (hkw.drewN n)).look (wf_of (by omega)) (wf_of (by omega)) (wf_of (by omega)) (wf_of (by omega))
      have hfe := HF.out j hlt
      rw [getD_of hxj, getD_of hxK] at hfe
      have HX := Lib.hid hxj; have HY := Lib.hid hxK
      clear hxj hxK
      cases hfv : f (j : Int) (K : Int) xj xK with
      | true =>
        rw [hfv] at hl hfe
        have HE := Lib.hid hfe
        clear hfe hfv
        go_wp2_with fail
        go_quiet (fail)
        go_wp2_with fail
        refine bodyPost_ret (results_tmp rfl _ _ _) rfl ?_
        refine ⟨?_, hkw.drewN _⟩
        have : withF cl c = (j : Int) := by
          unfold withF
          have e : (List.range (c.length - 1)).find? (fun i => cl i (c.length - 1) (c.getD i 0).toNat (c.getD (c.length - 1) 0).toNat) = some j := by
            rw [List.find?_range_eq_some]
            rw [hK, Nat.add_sub_cancel]
            refine ⟨by rw [getD_of HX.out, getD_of HY.out]; exact HE.out.symm, List.mem_range.2 hlt, fun i' hi' => by rw [HA.out i' hi']; rfl⟩
          rw [e]
        rw [this]; rfl
      | false =>
        rw [hfv] at hl hfe
        have HE := Lib.hid hfe
        clear hfe hfv
        go_wp2_with fail
        go_quiet (fail)
        go_wp2_with fail
        refine ⟨⟨j + 1, hlt, by rw [show (j : Int) + 1 = ((j + 1 : Nat) : Int) by omega], hkr.drewN _, Lib.hid (fun i' hi' => ?_)⟩, by simp [intOf]; omega⟩
        rcases Nat.lt_or_ge i' j with h | h
        · exact HA.out i' h
        · obtain rfl : i' = j := by omega
          rw [getD_of HX.out, getD_of HY.out]; exact HE.out.symm
    · obtain rfl : j = K := by omega
      have hlt' : ¬ (j : Int) < (j : Int) := by omega
      go_wp2_with fail
      refine bodyPost_ret (results_tmp rfl _ _ _) rfl ?_
      refine ⟨?_, hk1.trans hkr⟩
      have : withF cl c = -1 := by
        unfold withF
        have e : (List.range (c.length - 1)).find? (fun i => cl i (c.length - 1) (c.getD i 0).toNat (c.getD (c.length - 1) 0).toNat) = none := by
          rw [List.find?_range_eq_none]
          rw [hK, Nat.add_sub_cancel]
          intro i hi
          rw [HA.out i hi]; rfl
        rw [e]
      rw [this]; rfl
end Go.Proofs.Ytlgbioidkbeanaa
