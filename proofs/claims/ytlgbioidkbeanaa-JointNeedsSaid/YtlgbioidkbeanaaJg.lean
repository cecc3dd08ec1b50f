/- task.good: whether a refutation is one. -/
import Derived.Test.YtlgbioidkbeanaaJo
set_option linter.unusedVariables false
set_option linter.unusedSimpArgs false
namespace Go.Proofs.Ytlgbioidkbeanaa
open Go.RowKit Go.Shelf

theorem ints_cells' {no : Nat → Prop} {w : World} {o : List Int} {a : Option Addr} {L c : Nat} (h : VRel (cxA no w) (lstA intE o) (.slice a L c)) (m : Nat) (x : Int) (hi : o[m]? = some x) :
    ∃ bo oo, a = some ⟨bo, oo, none⟩ ∧ bo < w.heap.size ∧ w.cell? ⟨bo, oo + m, none⟩ = some (.int .i64 x) := by
  obtain ⟨ba, la, lc, e, hba, -, hlc⟩ := lst_open h (by rintro rfl; simp at hi)
  cases e
  refine ⟨_, _, rfl, hba, ?_⟩
  rw [← hlc m x hi 0 (.int .i64 x) (by decide) rfl]
  show w.cell? ⟨ba, la + m, none⟩ = w.cell? ⟨ba, la + (m * 1 + 0), none⟩
  rw [Nat.mul_one, Nat.add_zero]
theorem good_no {l : List (List TJointOption)} {cl : Nat → Nat → Nat → Nat → Bool} {r : TJointRefuted} (h : ¬ (2 ≤ r.Choice.length ∧ r.Choice.length ≤ l.length ∧ 0 ≤ r.With ∧ r.With < (r.Choice.length : Int) - 1)) : goodF l cl r = false := by
  have e : (decide (2 ≤ r.Choice.length) && decide (r.Choice.length ≤ l.length) && decide (0 ≤ r.With) && decide (r.With < (r.Choice.length : Int) - 1)) = false := by
    rw [← Bool.not_eq_true]
    simp only [Bool.and_eq_true, decide_eq_true_eq]
    exact fun ⟨⟨⟨a, b⟩, c⟩, d⟩ => h ⟨a, b, c, d⟩
  unfold goodF
  rw [e]
  rfl
theorem good_bad {l : List (List TJointOption)} {cl : Nat → Nat → Nat → Nat → Bool} {r : TJointRefuted} (j : Nat) (x : Int) (h : r.Choice[j]? = some x) (hx : ¬ (0 ≤ x ∧ x < ((l.getD j []).length : Int))) : goodF l cl r = false := by
  unfold goodF
  have : ((List.range r.Choice.length).all fun i => decide (0 ≤ r.Choice.getD i 0) && decide (r.Choice.getD i 0 < ((l.getD i []).length : Int))) = false := by
    rw [List.all_eq_false]
    refine ⟨j, List.mem_range.2 (List.getElem?_eq_some_iff.1 h).1, ?_⟩
    rw [getD_of h]
    simpa using hx
  rw [this]
  simp
theorem good_yes {l : List (List TJointOption)} {cl : Nat → Nat → Nat → Nat → Bool} {r : TJointRefuted} (K W : Nat) (h1 : r.Choice.length = K + 1) (h2 : 1 ≤ K) (h3 : K + 1 ≤ l.length) (h4 : r.With = (W : Int)) (h5 : W < K) (h : ∀ (j : Nat) (x : Int), r.Choice[j]? = some x → 0 ≤ x ∧ x < ((l.getD j []).length : Int)) :
    goodF l cl r = cl W K (r.Choice.getD W 0).toNat (r.Choice.getD K 0).toNat := by
  unfold goodF
  have : ((List.range r.Choice.length).all fun i => decide (0 ≤ r.Choice.getD i 0) && decide (r.Choice.getD i 0 < ((l.getD i []).length : Int))) = true := by
    rw [List.all_eq_true]
    intro i hi
    obtain ⟨x, hx⟩ : ∃ x, r.Choice[i]? = some x := ⟨_, List.getElem?_eq_getElem (List.mem_range.1 hi)⟩
    rw [getD_of hx]
    simpa using h i x hx
  have e : (decide (2 ≤ r.Choice.length) && decide (r.Choice.length ≤ l.length) && decide (0 ≤ r.With) && decide (r.With < (r.Choice.length : Int) - 1)) = true := by
    simp only [Bool.and_eq_true, decide_eq_true_eq]
    omega
  rw [this, e, h1, h4]
  rfl
set_option maxRecDepth 100000 in
set_option maxHeartbeats 8000000 in
theorem good_calls {no : Nat → Prop} {w : World} {l : List (List TJointOption)} {lv : Value} (hl : VRel (cxA no w) (lstA (lstE TJointOption.E) l) lv) (hl6 : l.length ≤ 6) (hl8 : ∀ o ∈ l, o.length ≤ 8) {cl : Nat → Nat → Nat → Nat → Bool} {mb n : Nat} {f : Int → Int → Int → Int → Bool} (hM : MapIs w mb n f)
    (hf : ∀ i k m q : Nat, i < k → k < l.length → m < (l.getD i []).length → q < (l.getD k []).length → f (i : Int) (k : Int) (m : Int) (q : Int) = cl i k m q) {r : TJointRefuted} {cv : Value} (hr : VRel (cxA no w) (lstA intE r.Choice) cv) :
    Calls Try.prog 31 #[.agg #[lv, .map (some mb)], .agg #[cv, .int .i64 r.With]] w fun e w' => e = .returned (.bool (goodF l cl r)) ∧ Kept w w' := by
  obtain ⟨la, lc, rfl⟩ := slice_lenE hl
  obtain ⟨ca, cc, rfl⟩ := slice_len hr
  have HR := Lib.hid (opts_cells hl)
  have HC := Lib.hid (ints_cells' hr)
  have hno := @good_no l cl r
  have hbad := @good_bad l cl r
  have hyes := @good_yes l cl r
  obtain ⟨c, wi⟩ := r
  simp only at hno hbad hyes HC ⊢
  generalize goodF l cl ⟨c, wi⟩ = res at *
  obtain ⟨W1, hW1⟩ : ∃ W1, (w.alloc (.cells #[.slice la l.length lc, .map (some mb)] 63)).alloc (.cells #[.slice ca c.length cc, .int .i64 wi] 49) = W1 := ⟨_, rfl⟩
  have hk1 : Kept w W1 := by rw [← hW1]; exact ((Kept.refl _).al _).al _
  have b1 : W1.heap[w.heap.size]? = some (.cells #[.slice la l.length lc, .map (some mb)] 63 (0, 0)) := by
    rw [← hW1]
    exact (Below.heap_alloc _ _ _ (by simp)).trans (World.alloc_heap_new _ _)
  have b2 : W1.heap[w.heap.size + 1]? = some (.cells #[.slice ca c.length cc, .int .i64 wi] 49 (0, 0)) := by
    rw [← hW1]
    have := World.alloc_heap_new (w.alloc (.cells #[.slice la l.length lc, .map (some mb)] 63)) (.cells #[.slice ca c.length cc, .int .i64 wi] 49)
    rwa [World.size_alloc] at this
  obtain ⟨x1, x2⟩ := both2 b1
  obtain ⟨x3, x4⟩ := both2 b2
  clear hl hr
  have HN := Lib.hid hno
  have HB := Lib.hid hbad
  have HY := Lib.hid hyes
  have HF := Lib.hid hf
  clear hno hbad hyes hf
  generalize hL : l.length = L at *
  generalize hN : c.length = N at *
  by_cases hA : N < 2
  · have d1 : (N : Int) < 2 := by omega
    have hres : res = false := HN.out (by omega)
    subst hres
    go_enter Try.func31, Try.ntmps31
    go_wp2_with fail
    refine bodyPost_ret (results_tmp rfl _ _ _) rfl ?_
    exact ⟨rfl, hk1⟩
  by_cases hB : N ≤ L
  case neg =>
    have d1 : ¬ (N : Int) < 2 := by omega
    have d2 : (L : Int) < (N : Int) := by omega
    have hres : res = false := HN.out (by omega)
    subst hres
    clear hA hB
    go_enter Try.func31, Try.ntmps31
    go_wp2_with fail
    refine bodyPost_ret (results_tmp rfl _ _ _) rfl ?_
    exact ⟨rfl, hk1⟩
  by_cases hC : 0 ≤ wi
  case neg =>
    have d1 : ¬ (N : Int) < 2 := by omega
    have d2 : ¬ (L : Int) < (N : Int) := by omega
    have d3 : wi < 0 := by omega
    have hres : res = false := HN.out (by omega)
    subst hres
    clear hA hB hC
    go_enter Try.func31, Try.ntmps31
    go_wp2_with fail
    refine bodyPost_ret (results_tmp rfl _ _ _) rfl ?_
    exact ⟨rfl, hk1⟩
  obtain ⟨W, rfl⟩ : ∃ W : Nat, wi = (W : Int) := ⟨wi.toNat, by omega⟩
  obtain ⟨K, hK⟩ : ∃ K, N = K + 1 := ⟨N - 1, by omega⟩
  subst hK
  have e1 : IntKind.i64.wrap (((K + 1 : Nat) : Int) - 1) = (K : Int) := by rw [wrap64 (by omega) (by omega)]; omega
  have d1 : ¬ ((K + 1 : Nat) : Int) < 2 := by omega
  have d2 : ¬ (L : Int) < ((K + 1 : Nat) : Int) := by omega
  have d3 : ¬ (W : Int) < 0 := by omega
  have D := Lib.hid (And.intro hA hB)
  clear hA hB hC
  by_cases hD : W < K
  case neg =>
    have d4 : (K : Int) ≤ (W : Int) := by omega
    have hres : res = false := HN.out (by omega)
    subst hres
    clear hD
    go_enter Try.func31, Try.ntmps31
    go_wp2_with fail
    refine bodyPost_ret (results_tmp rfl _ _ _) rfl ?_
    exact ⟨rfl, hk1⟩
  have d4 : ¬ (K : Int) ≤ (W : Int) := by omega
  go_enter Try.func31, Try.ntmps31
  go_wp2_with fail
  go_loopw [35] (fun i wr => ∃ j : Nat, j ≤ K + 1 ∧ i = .int .i64 j ∧ wr = W1 ∧ Hid (∀ (i' : Nat) (x : Int), i' < j → c[i']? = some x → 0 ≤ x ∧ x < ((l.getD i' []).length : Int))) (fun i _ => K + 1 - (intOf i).toNat)
  case atStart => exact ⟨0, Nat.zero_le _, rfl, rfl, Lib.hid (fun i x h => absurd h (Nat.not_lt_zero _))⟩
  case round =>
    obtain ⟨j, hj, rfl, rfl, HA⟩ := hrel
    by_cases hjl : j < K + 1
    · obtain ⟨x, hx⟩ : ∃ x, c[j]? = some x := ⟨_, List.getElem?_eq_getElem (by omega)⟩
      obtain ⟨o, ho⟩ : ∃ o, l[j]? = some o := ⟨_, List.getElem?_eq_getElem (by have := D.out.2; omega)⟩
      have hgo : (l.getD j []).length = o.length := by rw [List.getD, ho]; rfl
      obtain ⟨xb, xo, hca, hxb, hx1⟩ := HC.out j x hx
      obtain ⟨ba, off, hla, hba, oa, oc, ho1, -⟩ := HR.out j o ho
      have c1 : wr.cell? ⟨xb, xo + j, none⟩ = some (.int .i64 x) := (hk1.cell hxb).trans hx1
      have c2 : wr.cell? ⟨ba, off + j, none⟩ = some (.slice oa o.length oc) := (hk1.cell hba).trans ho1
      subst hca
      subst hla
      have d5 : (j : Int) < ((K + 1 : Nat) : Int) := by omega
      have d6 : (j : Int) < (L : Int) := by have := D.out.2; omega
      have BD := Lib.hid (HB.out j x hx)
      rw [hgo] at BD
      have HX := Lib.hid hx
      have HG := Lib.hid hgo
      clear hx ho hgo
      generalize o.length = M at *
      by_cases h1 : 0 ≤ x
      case neg =>
        have g1 : x < 0 := by omega
        have hres : res = false := BD.out (fun q => h1 q.1)
        subst hres
        clear h1
        go_wp2_with fail
        refine bodyPost_ret (results_tmp rfl _ _ _) rfl ?_
        exact ⟨rfl, hk1⟩
      have g1 : ¬ x < 0 := by omega
      by_cases h2 : x < (M : Int)
      case neg =>
        have g2 : (M : Int) ≤ x := by omega
        have hres : res = false := BD.out (fun q => h2 q.2)
        subst hres
        clear h1 h2
        go_wp2_with fail
        refine bodyPost_ret (results_tmp rfl _ _ _) rfl ?_
        exact ⟨rfl, hk1⟩
      have g2 : ¬ (M : Int) ≤ x := by omega
      have HX2 := Lib.hid (And.intro h1 h2)
      clear h1 h2
      go_wp2_with fail
      refine ⟨⟨j + 1, hjl, by rw [show (j : Int) + 1 = ((j + 1 : Nat) : Int) by omega], trivial, Lib.hid (fun i' x' hi' hx' => ?_)⟩, by simp [intOf]; omega⟩
      rcases Nat.lt_or_ge i' j with q | q
      · exact HA.out i' x' q hx'
      · obtain rfl : i' = j := by omega
        have e := HX.out.symm.trans hx'
        cases e
        rw [HG.out]
        exact HX2.out
    · obtain rfl : j = K + 1 := by omega
      have hjn : ¬ ((K + 1 : Nat) : Int) < ((K + 1 : Nat) : Int) := by omega
      have hKL := D.out.2
      obtain ⟨x, hx⟩ : ∃ x, c[W]? = some x := ⟨_, List.getElem?_eq_getElem (by omega)⟩
      obtain ⟨y, hy⟩ : ∃ x, c[K]? = some x := ⟨_, List.getElem?_eq_getElem (by omega)⟩
      obtain ⟨xb, xo, hca, hxb, hx1⟩ := HC.out W x hx
      obtain ⟨yb, yo, hca', hyb, hy1⟩ := HC.out K y hy
      have hwx := HA.out W x (by omega) hx
      have hwy := HA.out K y (by omega) hy
      have small : ∀ k, (l.getD k []).length ≤ 8 := fun k => by
        cases h : l[k]? with
        | none => rw [List.getD, h]; exact Nat.zero_le _
        | some o => rw [List.getD, h]; exact hl8 o (List.mem_of_getElem? h)
      have s1 := small W
      have s2 := small K
      have hff := HF.out W K x.toNat y.toNat hD (by omega) (by omega) (by omega)
      rw [Int.toNat_of_nonneg hwx.1, Int.toNat_of_nonneg hwy.1] at hff
      have hres := HY.out K W rfl (by have := D.out.1; omega) hKL rfl hD (fun i x h => HA.out i x (by have := (List.getElem?_eq_some_iff.1 h).1; omega) h)
      rw [getD_of hx, getD_of hy, ← hff] at hres
      subst hca
      cases hca'
      have c1 : wr.cell? ⟨xb, xo + W, none⟩ = some (.int .i64 x) := (hk1.cell hxb).trans hx1
      have c2 : wr.cell? ⟨xb, xo + K, none⟩ = some (.int .i64 y) := (hk1.cell hxb).trans hy1
      have d5 : (W : Int) < ((K + 1 : Nat) : Int) := by omega
      have d6 : (K : Int) < ((K + 1 : Nat) : Int) := by omega
      have hlk : ∀ n, (Instr.lookup 61 (.map (some mb)) (.agg #[.int .i64 (W : Int), .int .i64 (K : Int), .int .i64 x, .int .i64 y]) false).run Try.prog (wr.drewN n) = .ok (.bool (f (W : Int) (K : Int) x y)) (wr.drewN n) := fun n =>
        (hM.kept (hk1.drewN n)).look (wf_of (by omega)) (wf_of (by omega)) (wf_of (by omega)) (wf_of (by omega))
      subst hres
      obtain ⟨bb, hbb⟩ : ∃ bb, f (W : Int) (K : Int) x y = bb := ⟨_, rfl⟩
      rw [hbb] at hlk
      have HBB := Lib.hid hbb
      clear hbb
      clear hx hy hff hwx hwy
      go_wp2_with fail
      go_quiet (fail)
      go_wp2_with fail
      refine bodyPost_ret (results_tmp rfl _ _ _) rfl ?_
      exact ⟨by rw [HBB.out]; rfl, hk1.drewN _⟩
end Go.Proofs.Ytlgbioidkbeanaa
