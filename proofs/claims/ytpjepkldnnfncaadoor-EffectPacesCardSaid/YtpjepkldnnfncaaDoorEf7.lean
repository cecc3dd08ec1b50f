/- EffectPaces: the same points, never faster than cleared. -/
import Derived.Test.YtpjepkldnnfncaaDoorEf6
set_option linter.unusedVariables false
set_option linter.unusedSimpArgs false
namespace Go.Proofs.YtpjepkldnnfncaaDoor

def posN (x : TTubeNode) : TP := ⟨x.Node_At_X, x.Node_At_Y⟩
def paced (n : Nat) (v : Int) (p x : TTubeNode) : Prop := p.Node_Time < x.Node_Time ∧ x.Node_Time ≤ 200000 ∧ POk (posN p) ∧ POk (posN x) ∧ ∀ f c, g17 n (posN p) (posN x) = some (f, c) → f ≤ v * (x.Node_Time - p.Node_Time)
def chainP (n : Nat) (v : Int) : TTubeNode → List TTubeNode → Prop
  | _, [] => True
  | p, x :: r => paced n v p x ∧ chainP n v x r
def lastOf : TTubeNode → List TTubeNode → TTubeNode
  | p, [] => p
  | _, x :: r => lastOf x r
theorem chain_snoc {n : Nat} {v : Int} : ∀ (D : List TTubeNode) (p x : TTubeNode), chainP n v p D → paced n v (lastOf p D) x → chainP n v p (D ++ [x])
  | [], p, x, _, h => ⟨h, trivial⟩
  | y :: D, p, x, h, h2 => ⟨h.1, chain_snoc D y x h.2 h2⟩
theorem lastOf_snoc : ∀ (D : List TTubeNode) (p x : TTubeNode), lastOf p (D ++ [x]) = x
  | [], p, x => rfl
  | y :: D, p, x => lastOf_snoc D y x
theorem slow_loop (n : Nat) (hn : 64 < n) (T : Ttask) (N : Nat) (hN : N ≤ 64) (now : TTubeNode) (hv : 1 ≤ T.Clearance_Value ∧ T.Clearance_Value ≤ 400) : ∀ (R D : List TTubeNode) (m : Nat), (∀ x ∈ R, NodeB x) → chainP n T.Clearance_Value now D → POk (posN (lastOf now D)) → 0 ≤ (lastOf now D).Node_Time → (lastOf now D).Node_Time ≤ 200000 → D.length + R.length = N → R.length < m →
    (iterO (fun y : Int × List TTubeNode × Int × Int × Int × Int × Int × Int => S44_0 n (0) (N : Int) T.Clearance_Call T.Clearance_Kind T.Clearance_Value T.Clearance_Fix T.before T.later T.now_Node_Time T.now_Node_At_X T.now_Node_At_Y T.now_Node_Height T.now_Radius T.now_Band T.kind_Name T.kind_Wake T.kind_Ceiling T.kind_Climb T.kind_Descent T.kind_Slow T.kind_Fast T.fix_X T.fix_Y T.whole y.1 y.2.1 y.2.2.1 y.2.2.2.1 y.2.2.2.2.1 y.2.2.2.2.2.1 y.2.2.2.2.2.2.1 y.2.2.2.2.2.2.2) m
      ((D.length : Int), D ++ R, (lastOf now D).Node_Time, (lastOf now D).Node_At_X, (lastOf now D).Node_At_Y, (lastOf now D).Node_Height, (lastOf now D).Radius, (lastOf now D).Band) = some ([], 12)) ∨
    ∃ R' : List TTubeNode, R'.map posN = R.map posN ∧ chainP n T.Clearance_Value now (D ++ R') ∧
    (iterO (fun y : Int × List TTubeNode × Int × Int × Int × Int × Int × Int => S44_0 n (0) (N : Int) T.Clearance_Call T.Clearance_Kind T.Clearance_Value T.Clearance_Fix T.before T.later T.now_Node_Time T.now_Node_At_X T.now_Node_At_Y T.now_Node_Height T.now_Radius T.now_Band T.kind_Name T.kind_Wake T.kind_Ceiling T.kind_Climb T.kind_Descent T.kind_Slow T.kind_Fast T.fix_X T.fix_Y T.whole y.1 y.2.1 y.2.2.1 y.2.2.2.1 y.2.2.2.2.1 y.2.2.2.2.2.1 y.2.2.2.2.2.2.1 y.2.2.2.2.2.2.2) m
      ((D.length : Int), D ++ R, (lastOf now D).Node_Time, (lastOf now D).Node_At_X, (lastOf now D).Node_At_Y, (lastOf now D).Node_Height, (lastOf now D).Radius, (lastOf now D).Band) = some (D ++ R', 0))
  | [], D, m, hR, hD, hp, ht0, ht1, hl, hm => by
    obtain ⟨q, rfl⟩ : ∃ q, m = q + 1 := ⟨m - 1, by omega⟩
    right
    refine ⟨[], rfl, by simpa using hD, ?_⟩
    simp only [iterO]
    unfold S44_0
    rw [decide_eq_false (show ¬ (D.length : Int) < (N : Int) by simp at hl; omega), cond_false]
  | x :: R, D, m, hR, hD, hp, ht0, ht1, hl, hm => by
    obtain ⟨q, rfl⟩ : ∃ q, m = q + 1 := ⟨m - 1, by omega⟩
    simp only [List.length_cons] at hl hm
    have hx := hR x (List.mem_cons_self ..)
    generalize hlast : lastOf now D = p at *
    have hpx : POk (⟨p.Node_At_X, p.Node_At_Y⟩ : TP) := hp
    obtain ⟨f, c, ed, f0, f1, f2, f3, -⟩ := dist_val n hn (⟨p.Node_At_X, p.Node_At_Y⟩ : TP) (⟨x.Node_At_X, x.Node_At_Y⟩ : TP) hpx hx.2.2.1
    obtain ⟨w, hw, w0, w1, w2⟩ := up_val n c T.Clearance_Value (by omega) (by omega) (by omega)
    have gx : (D ++ x :: R)[D.length]? = some x := by simp
    generalize hM : (if w > 1 then w else 1) = M
    have M0 : 1 ≤ M := by rw [← hM]; split <;> omega
    have M1 : M ≤ 3000010 := by rw [← hM]; split <;> omega
    have M2 : w ≤ M := by rw [← hM]; split <;> omega
    have hset : (D ++ x :: R).set D.length (⟨p.Node_Time + M, x.Node_At_X, x.Node_At_Y, x.Node_Height, x.Radius, x.Band⟩ : TTubeNode) = (D ++ [(⟨p.Node_Time + M, x.Node_At_X, x.Node_At_Y, x.Node_Height, x.Radius, x.Band⟩ : TTubeNode)]) ++ R := by
      rw [List.set_append_right _ _ (Nat.le_refl _)]; simp
    have gs : ((D ++ [(⟨p.Node_Time + M, x.Node_At_X, x.Node_At_Y, x.Node_Height, x.Radius, x.Band⟩ : TTubeNode)]) ++ R)[D.length]? = some (⟨p.Node_Time + M, x.Node_At_X, x.Node_At_Y, x.Node_Height, x.Radius, x.Band⟩ : TTubeNode) := by simp
    generalize hy : (⟨p.Node_Time + M, x.Node_At_X, x.Node_At_Y, x.Node_Height, x.Radius, x.Band⟩ : TTubeNode) = y at *
    have yT : y.Node_Time = p.Node_Time + M := by rw [← hy]
    have yP : posN y = posN x := by rw [← hy]; rfl
    simp only [iterO]
    unfold S44_0
    rw [decide_eq_true (show (D.length : Int) < (N : Int) by omega), cond_true, getI_at gx, Option.bind_some, ed, Option.bind_some, hw, Option.bind_some, Option.bind_some, hM, wrap64 (z := p.Node_Time + M) (by omega) (by omega), Int.toNat_natCast, hy, hset, getI_at gs, Option.bind_some, Option.bind_some, wS (by omega)]
    by_cases hbig : y.Node_Time > 200000
    · rw [decide_eq_true hbig, cond_true]; left; rfl
    rw [decide_eq_false hbig, cond_false]
    have hpc : paced n T.Clearance_Value p y := by
      refine ⟨by omega, by omega, hp, by rw [yP]; exact hx.2.2.1, fun f' c' e' => ?_⟩
      rw [yP] at e'
      have : g17 n (posN p) (posN x) = some (f, c) := ed
      rw [this] at e'
      cases e'
      have h1 : w * T.Clearance_Value ≤ M * T.Clearance_Value := Int.mul_le_mul_of_nonneg_right M2 (by omega)
      rw [yT, show p.Node_Time + M - p.Node_Time = M by omega, Int.mul_comm]
      omega
    have hD' : chainP n T.Clearance_Value now (D ++ [y]) := chain_snoc D now y hD (by rw [hlast]; exact hpc)
    have hl' := lastOf_snoc D now y
    have ih := slow_loop n hn T N hN now hv R (D ++ [y]) q (fun z hz => hR z (List.mem_cons_of_mem _ hz)) hD' (by rw [hl', yP]; exact hx.2.2.1) (by rw [hl']; omega) (by rw [hl']; omega) (by simp; omega) (by omega)
    rw [hl', show ((D ++ [y]).length : Int) = ((D.length + 1 : Nat) : Int) by simp] at ih
    rcases ih with ih | ⟨R', k1, k2, ih⟩
    · left; exact ih
    · right
      refine ⟨y :: R', by rw [List.map_cons, List.map_cons, k1, yP], by simpa using k2, ?_⟩
      rw [show D ++ y :: R' = (D ++ [y]) ++ R' by simp]
      exact ih
theorem equal_pts (n : Nat) (l : List TP) (hl : l.length ≤ 64) (hn : 64 < n) : g18 n l l = some true := by
  unfold g18
  rw [show ((l.length : Int) != (l.length : Int)) = false from by simp, cond_false]
  have := equal_loop l l rfl (S := fun y : Int => S18_0 n l l false (l.length : Int) y) (fun i x y hx hy => by
    have hlt := some_lt hx
    unfold S18_0
    obtain rfl : x = y := by rw [hx] at hy; exact Option.some.inj hy
    rw [decide_eq_true (show (i : Int) < (l.length : Int) by omega), cond_true, getI_at hx]
    simp only [Option.bind_some]
    rw [wS (by omega)]
    rw [decide_eq_true trivial, if_pos trivial]; rfl) (by
    unfold S18_0
    rw [decide_eq_false (Int.lt_irrefl _)]; rfl) n (by omega)
  rw [show iterO (fun y : Int => S18_0 n l l false (l.length : Int) y) n 0 = some (decide (l = l)) from this, decide_eq_true rfl]
theorem skip_loop (n : Nat) (v t : Int) (m W : List TTubeNode) (O A : List TP) (hm : m.length ≤ 64) : ∀ (B pre : List TTubeNode) (q : Nat), m = pre ++ B ++ W → (∀ x ∈ B, x.Node_Time ≤ t) →
    iterO (fun y : Int × List TP × List TP => S7_1 n v t false m (m.length : Int) y.1 y.2.1 y.2.2) (q + B.length) ((pre.length : Int), O, A) = iterO (fun y : Int × List TP × List TP => S7_1 n v t false m (m.length : Int) y.1 y.2.1 y.2.2) q (((pre ++ B).length : Int), O, A)
  | [], pre, q, h, hB => by simp
  | x :: B, pre, q, h, hB => by
    have gx : m[pre.length]? = some x := by rw [h]; simp
    have hlt := some_lt gx
    have e : S7_1 n v t false m (m.length : Int) (pre.length : Int) O A = some (.inl (((pre.length + 1 : Nat) : Int), O, A)) := by
      unfold S7_1
      rw [decide_eq_true (show (pre.length : Int) < (m.length : Int) by omega), cond_true, getI_at gx, Option.bind_some, decide_eq_true (hB x (List.mem_cons_self ..)), cond_true, wS (by omega)]
    rw [show q + (x :: B).length = (q + B.length) + 1 by simp; omega]
    simp only [iterO, e]
    have ih := skip_loop n v t m W O A hm B (pre ++ [x]) q (by rw [h]; simp) (fun z hz => hB z (List.mem_cons_of_mem _ hz))
    rw [show ((pre ++ [x]).length : Int) = ((pre.length + 1 : Nat) : Int) by simp, show pre ++ [x] ++ B = pre ++ x :: B by simp] at ih
    exact ih
theorem walk_loop (n : Nat) (hn : 64 < n) (v t : Int) (hv : 1 ≤ v ∧ v ≤ 400) (m : List TTubeNode) (O : List TP) (hm : m.length ≤ 64) (hO : O.length ≤ 64) : ∀ (W pre : List TTubeNode) (p : TTubeNode) (A : List TP) (q : Nat), m = pre ++ p :: W → chainP n v p W → t ≤ p.Node_Time → 0 ≤ p.Node_Time → p.Node_Time ≤ 200000 → A.length ≤ pre.length → O = A ++ W.map posN → W.length < q →
    iterO (fun y : Int × List TP × List TP => S7_1 n v t false m (m.length : Int) y.1 y.2.1 y.2.2) q (((pre.length + 1 : Nat) : Int), O, A) = some true
  | [], pre, p, A, q, h, hc, ht, hp0, hp1, hA, hOA, hq => by
    obtain ⟨q, rfl⟩ : ∃ r, q = r + 1 := ⟨q - 1, by omega⟩
    simp only [iterO]
    unfold S7_1
    have hml : m.length = pre.length + 1 := by rw [h]; simp
    rw [decide_eq_false (show ¬ ((pre.length + 1 : Nat) : Int) < (m.length : Int) by omega), cond_false]
    simp only [List.map_nil, List.append_nil] at hOA
    subst hOA
    rw [equal_pts n O hO hn]; rfl
  | x :: W, pre, p, A, q, h, hc, ht, hp0, hp1, hA, hOA, hq => by
    obtain ⟨q, rfl⟩ : ∃ r, q = r + 1 := ⟨q - 1, by omega⟩
    simp only [List.length_cons] at hq
    obtain ⟨⟨c1, c2, c3, c4, c5⟩, hc2⟩ := hc
    have hml : m.length = pre.length + 2 + W.length := by rw [h]; simp; omega
    have gx : m[pre.length + 1]? = some x := by rw [h]; simp
    have gp : m[pre.length]? = some p := by rw [h]; simp
    obtain ⟨f, c, ed, -⟩ := dist_val n hn (⟨p.Node_At_X, p.Node_At_Y⟩ : TP) (⟨x.Node_At_X, x.Node_At_Y⟩ : TP) c3 c4
    have hf := c5 f c ed
    have hw : IntKind.wrap .i64 (((pre.length + 1 : Nat) : Int) - 1) = (pre.length : Int) := by rw [wrap64 (by omega) (by omega)]; omega
    have hb : v * (x.Node_Time - p.Node_Time) ≤ 400 * 200000 := by
      have h1 : v * (x.Node_Time - p.Node_Time) ≤ 400 * (x.Node_Time - p.Node_Time) := Int.mul_le_mul_of_nonneg_right hv.2 (by omega)
      omega
    have hb0 : 0 ≤ v * (x.Node_Time - p.Node_Time) := Int.mul_nonneg (by omega) (by omega)
    have e : S7_1 n v t false m (m.length : Int) ((pre.length + 1 : Nat) : Int) O A = some (.inl (((pre.length + 1 + 1 : Nat) : Int), O, A ++ [posN x])) := by
      unfold S7_1
      rw [decide_eq_true (show ((pre.length + 1 : Nat) : Int) < (m.length : Int) by omega), cond_true, getI_at gx, Option.bind_some, decide_eq_false (show ¬ x.Node_Time ≤ t by omega), cond_false, room_of (by simp; omega) (by simp; omega), Option.bind_some, show (((pre.length + 1 : Nat) : Int) == 0) = false from beq_eq_false_iff_ne.2 (by omega), cond_false, hw, getI_at gp, Option.bind_some, ed, Option.bind_some, Option.bind_some, wrap64 (z := x.Node_Time - p.Node_Time) (by omega) (by omega), wrap64 (z := v * (x.Node_Time - p.Node_Time)) (by omega) (by omega), decide_eq_false (show ¬ f > v * (x.Node_Time - p.Node_Time) by omega), cond_false, wS (by omega)]
      rfl
    simp only [iterO, e]
    have ih := walk_loop n hn v t hv m O hm hO W (pre ++ [p]) x (A ++ [posN x]) q (by rw [h]; simp) hc2 (by omega) (by omega) c2 (by simp; omega) (by rw [hOA]; simp) (by omega)
    rw [show (((pre ++ [p]).length + 1 : Nat) : Int) = ((pre.length + 1 + 1 : Nat) : Int) by simp] at ih
    exact ih
theorem none_loop (n : Nat) (hn : 64 < n) (v t : Int) (m : List TTubeNode) (hm : m.length ≤ 64) (h : ∀ x ∈ m, x.Node_Time ≤ t) : iterO (fun y : Int × List TP × List TP => S7_1 n v t false m (m.length : Int) y.1 y.2.1 y.2.2) n (0, [], []) = some true := by
  obtain ⟨q, rfl⟩ : ∃ q, n = (q + 1) + m.length := ⟨n - 1 - m.length, by omega⟩
  have := skip_loop ((q + 1) + m.length) v t m [] [] [] hm m [] (q + 1) (by simp) h
  rw [show ((([] : List TTubeNode).length : Nat) : Int) = 0 from rfl] at this
  rw [this, List.nil_append]
  simp only [iterO]
  unfold S7_1
  rw [decide_eq_false (Int.lt_irrefl _), cond_false, equal_pts _ [] (by simp) (by omega)]
  rfl
theorem first_loop (n : Nat) (v t : Int) (m l : List TTubeNode) (hl : l.length ≤ 64) (r : Bool) (h2 : iterO (fun y : Int × List TP × List TP => S7_1 n v t false m (m.length : Int) y.1 y.2.1 y.2.2) n (0, (lat l t).map posN, []) = some r) : ∀ (d i q : Nat), i + d = l.length → d < q →
    iterO (fun y : Int × List TP => S7_0 n v t false m l (l.length : Int) y.1 y.2) q ((i : Int), (lat (l.take i) t).map posN) = some r
  | 0, i, q, hi, hq => by
    obtain ⟨q, rfl⟩ : ∃ r, q = r + 1 := ⟨q - 1, by omega⟩
    have hi' : i = l.length := by omega
    subst hi'
    simp only [iterO]
    unfold S7_0
    rw [decide_eq_false (Int.lt_irrefl _), cond_false, List.take_length, h2]; rfl
  | d + 1, i, q, hi, hq => by
    obtain ⟨q, rfl⟩ : ∃ r, q = r + 1 := ⟨q - 1, by omega⟩
    have hlt : i < l.length := by omega
    have hx : l[i]? = some l[i] := List.getElem?_eq_getElem hlt
    have e : S7_0 n v t false m l (l.length : Int) (i : Int) ((lat (l.take i) t).map posN) = some (.inl (((i + 1 : Nat) : Int), (lat (l.take (i + 1)) t).map posN)) := by
      unfold S7_0
      rw [decide_eq_true (show (i : Int) < (l.length : Int) by omega), cond_true, getI_at hx, Option.bind_some, wS (by omega), take_one hx]
      by_cases a2 : l[i].Node_Time > t
      · have hr := lat_len (l.take i) t
        have hr2 : (l.take i).length ≤ 64 := by rw [List.length_take]; omega
        rw [decide_eq_true a2, cond_true, room_of (by simp only [List.length_map, List.length_singleton]; omega) (by simp only [List.length_map, List.length_singleton]; omega), Option.bind_some]
        unfold lat
        rw [List.filter_append, List.map_append]
        simp only [List.filter_cons, List.filter_nil, a2, decide_true, if_true, List.map_cons, List.map_nil]
        rfl
      · rw [decide_eq_false a2, cond_false]
        unfold lat
        rw [List.filter_append, List.map_append]
        simp only [List.filter_cons, List.filter_nil, a2, decide_false, Bool.false_eq_true, if_false, List.map_nil, List.append_nil]
    simp only [iterO, e]
    exact first_loop n v t m l hl r h2 d (i + 1) q (by omega) (by omega)
theorem paces_law (l : List TTubeNode) (call : ByteArray) (v t : Int) (k : TKind) : g7 200300 l call v t k = some true := by
  unfold g7
  rw [effect_fact, Option.bind_some, Bool.not_true, cond_false]
  rcases of_cases 200300 (by omega) l (⟨call, 2, v, (⟨#[]⟩ : ByteArray)⟩ : TClearance) t k (⟨0, 0⟩ : TP) with ⟨y, hy, e1⟩ | ⟨ec, ok, hk, hfix, now, e4, e1⟩
  · rw [e1, Option.bind_some, bne_iff_ne.2 hy]; rfl
  obtain ⟨n1, n2, n3, n4, n5⟩ := At_ok 200300 (by omega) l ok ec t now e4
  have hl := ok.len
  have fin : ∀ m : List TTubeNode, iterO (fun y : Int × List TP × List TP => S7_1 200300 v t false m (m.length : Int) y.1 y.2.1 y.2.2) 200300 (0, (lat l t).map posN, []) = some true → iterO (fun y : Int × List TP => S7_0 200300 v t false m l (l.length : Int) y.1 y.2) 200300 (0, []) = some true := fun m h => first_loop 200300 v t m l hl true h l.length 0 200300 (by omega) (by omega)
  by_cases hla : lat l t = []
  · have hc : g31 200300 (tsk l (⟨call, 2, v, (⟨#[]⟩ : ByteArray)⟩ : TClearance) t now k (⟨0, 0⟩ : TP)) = some ([], true, 0) := by
      unfold g31 tsk
      simp only [hla]
      rfl
    have hend : ofEnd 200300 l (⟨call, 2, v, (⟨#[]⟩ : ByteArray)⟩ : TClearance) t now k (⟨0, 0⟩ : TP) = some (l, 0) := by
      unfold ofEnd
      rw [hc, Option.bind_some, room_of (by omega) (by omega)]
      rfl
    rw [e1, hend, Option.bind_some, show ((0 : Int) != 0) = false from rfl, cond_false]
    refine fin l ?_
    rw [hla]
    exact none_loop 200300 (by omega) v t l hl (fun x hx => by
      rcases Int.lt_or_le t x.Node_Time with h | h
      · have : x ∈ lat l t := lat_mem.2 ⟨hx, h⟩
        rw [hla] at this; cases this
      · exact h)
  have hlp : (lat l t).length ≠ 0 := fun h => hla (List.eq_nil_of_length_eq_zero h)
  have hll := lat_len l t
  have hcar : ∀ r : List TTubeNode × Int, g44 200300 (tsk l (⟨call, 2, v, (⟨#[]⟩ : ByteArray)⟩ : TClearance) t now k (⟨0, 0⟩ : TP)) = some r → g31 200300 (tsk l (⟨call, 2, v, (⟨#[]⟩ : ByteArray)⟩ : TClearance) t now k (⟨0, 0⟩ : TP)) = some (r.1, false, r.2) := fun r hr => by
    unfold g31
    rw [hr]
    show (bif ((2 : Int) == 0) then _ else bif (((lat l t).length : Int) == 0) then _ else _) = _
    rw [show (((lat l t).length : Int) == 0) = false from beq_eq_false_iff_ne.2 (by omega)]
    rfl
  have err : ∀ z : Int, z ≠ 0 → g44 200300 (tsk l (⟨call, 2, v, (⟨#[]⟩ : ByteArray)⟩ : TClearance) t now k (⟨0, 0⟩ : TP)) = some ([], z) → g11 200300 l (⟨call, 2, v, (⟨#[]⟩ : ByteArray)⟩ : TClearance) t k (⟨0, 0⟩ : TP) = some ([], z) := fun z hz h => by
    rw [e1]; unfold ofEnd
    rw [hcar _ h, Option.bind_some, bne_iff_ne.2 hz]; rfl
  have hs : g44 200300 (tsk l (⟨call, 2, v, (⟨#[]⟩ : ByteArray)⟩ : TClearance) t now k (⟨0, 0⟩ : TP)) = bif (decide (v < k.Slow)) then some ([], 4) else bif (decide (v > k.Fast)) then some ([], 4) else (iterO (fun y : Int × List TTubeNode × Int × Int × Int × Int × Int × Int => S44_0 200300 (0) ((lat l t).length : Int) call 2 v (⟨#[]⟩ : ByteArray) (bef l t) (lat l t) now.Node_Time now.Node_At_X now.Node_At_Y now.Node_Height now.Radius now.Band k.Name k.Wake k.Ceiling k.Climb k.Descent k.Slow k.Fast 0 0 l y.1 y.2.1 y.2.2.1 y.2.2.2.1 y.2.2.2.2.1 y.2.2.2.2.2.1 y.2.2.2.2.2.2.1 y.2.2.2.2.2.2.2) 200300 ((0), lat l t, now.Node_Time, now.Node_At_X, now.Node_At_Y, now.Node_Height, now.Radius, now.Band)) := by
    unfold g44
    have hr : roomO (tsk l (⟨call, 2, v, (⟨#[]⟩ : ByteArray)⟩ : TClearance) t now k (⟨0, 0⟩ : TP)).later.length 48 = some () := room_of (by show (lat l t).length * 48 ≤ _; omega) (by show (lat l t).length ≤ _; omega)
    rw [hr, Option.bind_some]
    rfl
  obtain ⟨z2, hz2, hkb⟩ := craft_tot 200300 (by omega) k
  rw [hk] at hz2
  cases hz2
  obtain ⟨-, -, -, -, k5, k6, -, -⟩ := hkb rfl
  by_cases h1 : v < k.Slow
  · rw [decide_eq_true h1, cond_true] at hs
    rw [err 4 (by decide) hs]; rfl
  rw [decide_eq_false h1, cond_false] at hs
  by_cases h2 : v > k.Fast
  · rw [decide_eq_true h2, cond_true] at hs
    rw [err 4 (by decide) hs]; rfl
  rw [decide_eq_false h2, cond_false] at hs
  have hloop := slow_loop 200300 (by omega) (tsk l (⟨call, 2, v, (⟨#[]⟩ : ByteArray)⟩ : TClearance) t now k (⟨0, 0⟩ : TP)) (lat l t).length (by omega) now ⟨by show 1 ≤ v; omega, by show v ≤ 400; omega⟩ (lat l t) [] 200300 (fun x hx => ok.nodes x (lat_mem.1 hx).1) trivial n2 (by show 0 ≤ now.Node_Time; omega) (by show now.Node_Time ≤ 200000; omega) (by simp) (by omega)
  rcases hloop with hloop | ⟨R', m1, m2, hloop⟩
  · rw [err 12 (by decide) (hs.trans hloop)]; rfl
  rw [List.nil_append] at m2 hloop
  have hs' : g44 200300 (tsk l (⟨call, 2, v, (⟨#[]⟩ : ByteArray)⟩ : TClearance) t now k (⟨0, 0⟩ : TP)) = some (R', 0) := hs.trans hloop
  have hcar' : g31 200300 (tsk l (⟨call, 2, v, (⟨#[]⟩ : ByteArray)⟩ : TClearance) t now k (⟨0, 0⟩ : TP)) = some (R', false, 0) := hcar _ hs'
  have hRl : R'.length = (lat l t).length := by have := congrArg List.length m1; simpa using this
  have hb := bef_len l t
  have hcat : catO 48 ([bef l t, ([(⟨now.Node_Time, now.Node_At_X, now.Node_At_Y, now.Node_Height, now.Radius, now.Band⟩ : TTubeNode)] : List TTubeNode), R'] : List (List TTubeNode)) = some (bef l t ++ now :: R') := by
    rw [cat_ok (by simp) (by simp; omega)]
    simp
  by_cases hbig : ((bef l t ++ now :: R').length : Int) > 64
  · have : g11 200300 l (⟨call, 2, v, (⟨#[]⟩ : ByteArray)⟩ : TClearance) t k (⟨0, 0⟩ : TP) = some ([], 2) := by
      rw [e1]; unfold ofEnd
      rw [hcar', Option.bind_some, show ((0 : Int) != 0) = false from rfl, cond_false, cond_false, hcat, Option.bind_some, decide_eq_true hbig]; rfl
    rw [this]; rfl
  · have : g11 200300 l (⟨call, 2, v, (⟨#[]⟩ : ByteArray)⟩ : TClearance) t k (⟨0, 0⟩ : TP) = some (bef l t ++ now :: R', 0) := by
      rw [e1]; unfold ofEnd
      rw [hcar', Option.bind_some, show ((0 : Int) != 0) = false from rfl, cond_false, cond_false, hcat, Option.bind_some, decide_eq_false hbig]; rfl
    rw [this, Option.bind_some, show ((0 : Int) != 0) = false from rfl, cond_false]
    refine fin _ ?_
    have hml : (bef l t ++ now :: R').length ≤ 64 := by omega
    have hskip := skip_loop 200300 v t (bef l t ++ now :: R') R' ((lat l t).map posN) [] hml (bef l t ++ [now]) [] (200300 - (bef l t ++ [now]).length) (by simp) (fun x hx => by
      rcases List.mem_append.1 hx with h | h
      · have : x.Node_Time < t := by simpa [bef] using (List.mem_filter.1 h).2
        omega
      · rw [List.mem_singleton.1 h]; omega)
    have hpl : (bef l t ++ [now]).length = (bef l t).length + 1 := by simp
    rw [show 200300 - (bef l t ++ [now]).length + (bef l t ++ [now]).length = 200300 by omega, show ((([] : List TTubeNode).length : Nat) : Int) = 0 from rfl, List.nil_append, hpl] at hskip
    rw [hskip]
    exact walk_loop 200300 (by omega) v t ⟨by omega, by omega⟩ (bef l t ++ now :: R') ((lat l t).map posN) hml (by simp; omega) R' (bef l t) now [] _ rfl m2 (by omega) (by omega) (by omega) (by simp) (by rw [← m1]; rfl) (by omega)
end Go.Proofs.YtpjepkldnnfncaaDoor
