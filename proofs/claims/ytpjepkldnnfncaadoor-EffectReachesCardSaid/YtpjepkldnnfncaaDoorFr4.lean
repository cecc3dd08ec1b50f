/- The loop of height: every later node gets the height of its time. -/
import Derived.Test.YtpjepkldnnfncaaDoorFr3
set_option linter.unusedVariables false
set_option linter.unusedSimpArgs false
namespace Go.Proofs.YtpjepkldnnfncaaDoor

/- the height u: D in all from h0 on at t0, N seconds long -/
def hgt (h0 to t0 N u : Int) : Int := if t0 + N ≤ u then to else h0 + ((to - h0) * (u - t0)) / N
def hN (h0 to t0 N : Int) (x : TTubeNode) : TTubeNode := ⟨x.Node_Time, x.Node_At_X, x.Node_At_Y, hgt h0 to t0 N x.Node_Time, x.Radius, x.Band⟩
theorem mid_le {D c d : Int} (hc : 0 ≤ c ∧ c ≤ d) (hd : 0 < d) : (0 ≤ D → 0 ≤ (D * c) / d ∧ (D * c) / d ≤ D) ∧ (D < 0 → D ≤ (D * c) / d ∧ (D * c) / d ≤ 0) := by
  refine ⟨fun h => ⟨Int.ediv_nonneg (Int.mul_nonneg h hc.1) (by omega), Int.ediv_le_of_le_mul hd (Int.mul_le_mul_of_nonneg_left hc.2 h)⟩, fun h => ⟨Int.le_ediv_of_mul_le hd (Int.mul_le_mul_of_nonpos_left (by omega) hc.2), ?_⟩⟩
  rcases Int.lt_or_eq_of_le hc.1 with h' | h'
  · have : D * c < 0 := Int.mul_neg_of_neg_of_pos h h'
    have := Int.ediv_neg_of_neg_of_pos this hd
    omega
  · rw [← h', Int.mul_zero, Int.zero_ediv]; exact Int.le_refl _
theorem height_loop (n : Nat) (T : Ttask) (N e : Int) (M : Nat) (hM : M ≤ 1000) (he : e = T.now_Node_Time + N) (hN0 : 0 ≤ N ∧ N ≤ 100000) (hh : 0 ≤ T.now_Node_Height ∧ T.now_Node_Height ≤ 60000) (hv : 0 ≤ T.Clearance_Value ∧ T.Clearance_Value ≤ 60000) (ht : 0 ≤ T.now_Node_Time ∧ T.now_Node_Time ≤ 200000) : ∀ (R D : List TTubeNode) (m : Nat), (∀ x ∈ R, T.now_Node_Time < x.Node_Time ∧ x.Node_Time ≤ 200000) → D.length + R.length = M → R.length < m →
    iterO (fun y : Int × List TTubeNode => S42_0 n (0) N (M : Int) T.Clearance_Call T.Clearance_Kind T.Clearance_Value T.Clearance_Fix T.before T.later T.now_Node_Time T.now_Node_At_X T.now_Node_At_Y T.now_Node_Height T.now_Radius T.now_Band T.kind_Name T.kind_Wake T.kind_Ceiling T.kind_Climb T.kind_Descent T.kind_Slow T.kind_Fast T.fix_X T.fix_Y T.whole e y.1 y.2) m ((D.length : Int), D ++ R) = some (D ++ R.map (hN T.now_Node_Height T.Clearance_Value T.now_Node_Time N), 0)
  | [], D, m, hR, hl, hm => by
    obtain ⟨q, rfl⟩ : ∃ q, m = q + 1 := ⟨m - 1, by omega⟩
    simp only [iterO]
    unfold S42_0
    rw [decide_eq_false (show ¬ (D.length : Int) < (M : Int) by simp at hl; omega), cond_false]
    rfl
  | x :: R, D, m, hR, hl, hm => by
    obtain ⟨q, rfl⟩ : ∃ q, m = q + 1 := ⟨m - 1, by omega⟩
    simp only [List.length_cons] at hl hm
    have hx := hR x (List.mem_cons_self ..)
    have gx : (D ++ x :: R)[D.length]? = some x := by simp
    have hset : ∀ y : TTubeNode, (D ++ x :: R).set D.length y = (D ++ [y]) ++ R := fun y => by
      rw [List.set_append_right _ _ (Nat.le_refl _)]; simp
    have e1 : S42_0 n (0) N (M : Int) T.Clearance_Call T.Clearance_Kind T.Clearance_Value T.Clearance_Fix T.before T.later T.now_Node_Time T.now_Node_At_X T.now_Node_At_Y T.now_Node_Height T.now_Radius T.now_Band T.kind_Name T.kind_Wake T.kind_Ceiling T.kind_Climb T.kind_Descent T.kind_Slow T.kind_Fast T.fix_X T.fix_Y T.whole e (D.length : Int) (D ++ x :: R) = some (.inl (((D.length + 1 : Nat) : Int), (D ++ [hN T.now_Node_Height T.Clearance_Value T.now_Node_Time N x]) ++ R)) := by
      unfold S42_0
      rw [decide_eq_true (show (D.length : Int) < (M : Int) by omega), cond_true, getI_at gx, Option.bind_some, wS (by omega), Int.toNat_natCast]
      by_cases hc : x.Node_Time ≥ e
      · rw [decide_eq_true hc, cond_true, hset]
        unfold hN hgt
        rw [if_pos (by omega)]
      · rw [decide_eq_false hc, cond_false]
        have pb := prod_bound (D := T.Clearance_Value - T.now_Node_Height) (c := x.Node_Time - T.now_Node_Time) (M := 2000000) (by omega) (by omega) (by decide)
        have hd := down_exact n ((T.Clearance_Value - T.now_Node_Height) * (x.Node_Time - T.now_Node_Time)) N pb (by omega)
        have md := mid_le (D := T.Clearance_Value - T.now_Node_Height) (c := x.Node_Time - T.now_Node_Time) (d := N) (by omega) (by omega)
        rw [wrap64 (z := T.Clearance_Value - T.now_Node_Height) (by omega) (by omega), wrap64 (z := x.Node_Time - T.now_Node_Time) (by omega) (by omega), wrap64 (z := (T.Clearance_Value - T.now_Node_Height) * (x.Node_Time - T.now_Node_Time)) (by omega) (by omega), hd, Option.bind_some]
        have hb : -60000 ≤ ((T.Clearance_Value - T.now_Node_Height) * (x.Node_Time - T.now_Node_Time)) / N ∧ ((T.Clearance_Value - T.now_Node_Height) * (x.Node_Time - T.now_Node_Time)) / N ≤ 60000 := by
          rcases Int.lt_or_le (T.Clearance_Value - T.now_Node_Height) 0 with h | h
          · have := md.2 h; omega
          · have := md.1 h; omega
        rw [wrap64 (by omega) (by omega), hset]
        unfold hN hgt
        rw [if_neg (by omega)]
    simp only [iterO, e1]
    have ih := height_loop n T N e M hM he hN0 hh hv ht R (D ++ [hN T.now_Node_Height T.Clearance_Value T.now_Node_Time N x]) q (fun z hz => hR z (List.mem_cons_of_mem _ hz)) (by simp; omega) (by omega)
    rw [show ((D ++ [hN T.now_Node_Height T.Clearance_Value T.now_Node_Time N x]).length : Int) = ((D.length + 1 : Nat) : Int) by simp] at ih
    rw [ih]
    simp
end Go.Proofs.YtpjepkldnnfncaaDoor
