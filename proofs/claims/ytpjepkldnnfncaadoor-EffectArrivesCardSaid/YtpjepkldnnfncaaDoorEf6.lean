/- The node at a time is within bounds. EffectArrives: a flight that is cleared directly to a fix ends there. -/
import Derived.Test.YtpjepkldnnfncaaDoorEf2
import Derived.Test.YtpjepkldnnfncaaDoorEf5
set_option linter.unusedVariables false
set_option linter.unusedSimpArgs false
namespace Go.Proofs.YtpjepkldnnfncaaDoor

theorem toward_val (n : Nat) (a b : TP) (ha : POk a) (hb : POk b) (c d : Int) (hc : 0 ≤ c ∧ c ≤ d) (hd : 0 < d ∧ d ≤ 200000) : ∃ r : TP, g49 n a b c d = some (r, 0) ∧ POk r := by
  obtain ⟨a1, a2, a3, a4⟩ := ha
  obtain ⟨b1, b2, b3, b4⟩ := hb
  have ea : g30 n a = some 0 := by
    rcases pcheck n a with ⟨e, -⟩ | ⟨-, h⟩
    · exact e
    · exact absurd ⟨a1, a2, a3, a4⟩ h
  have eb : g30 n b = some 0 := by
    rcases pcheck n b with ⟨e, -⟩ | ⟨-, h⟩
    · exact e
    · exact absurd ⟨b1, b2, b3, b4⟩ h
  obtain ⟨q1, e1, u1, u2⟩ := down_mid n (b.X - a.X) c d (by omega) hc hd
  obtain ⟨q2, e2, w1, w2⟩ := down_mid n (b.Y - a.Y) c d (by omega) hc hd
  have x1 : -1000000 ≤ a.X + q1 ∧ a.X + q1 ≤ 1000000 := by
    rcases Int.lt_or_le (b.X - a.X) 0 with h | h
    · have := u2 h; omega
    · have := u1 h; omega
  have x2 : -1000000 ≤ a.Y + q2 ∧ a.Y + q2 ≤ 1000000 := by
    rcases Int.lt_or_le (b.Y - a.Y) 0 with h | h
    · have := w2 h; omega
    · have := w1 h; omega
  unfold g49
  rw [decide_eq_false (show ¬ d ≤ 0 by omega), decide_eq_false (show ¬ d > 200000 by omega), decide_eq_false (show ¬ c < 0 by omega), decide_eq_false (show ¬ c > d by omega), ea, eb, wrap64 (z := b.X - a.X) (by omega) (by omega), wrap64 (z := b.Y - a.Y) (by omega) (by omega)]
  simp only [cond_false, Option.bind_some, show ((0 : Int) != 0) = false from rfl]
  rw [e1, e2]
  simp only [Option.bind_some]
  rw [wrap64 (z := a.X + q1) (by omega) (by omega), wrap64 (z := a.Y + q2) (by omega) (by omega)]
  exact ⟨_, rfl, x1.1, x1.2, x2.1, x2.2⟩
theorem at_ok (n : Nat) (hn : 64 < n) (l : List TTubeNode) (h : TubeOk l) (t : Int) (x0 x1 : TTubeNode) (h0 : l[0]? = some x0) (h1 : l[l.length - 1]? = some x1) (ht0 : x0.Node_Time ≤ t) (ht1 : t ≤ x1.Node_Time) : ∃ r : TTubeNode, g35 n l t = some r ∧ r.Node_Time = t ∧ POk ⟨r.Node_At_X, r.Node_At_Y⟩ := by
  have hp := h.pos
  have b0 := h.nodes x0 (List.mem_of_getElem? h0)
  have b1 := h.nodes x1 (List.mem_of_getElem? h1)
  obtain ⟨i, hi, k1, k2, b, hb, hbt⟩ := search_eq n hn l h t (by have := b0.1; have := b1.2.1; omega)
  unfold g35
  rw [hb, Option.bind_some]
  cases b with
  | true =>
    obtain ⟨x, hx, hxt⟩ := hbt.1 rfl
    simp only [cond_true]
    rw [getI_at hx]; exact ⟨_, rfl, hxt, (h.nodes x (List.mem_of_getElem? hx)).2.2.1⟩
  | false =>
    simp only [cond_false]
    have hil : i < l.length := by
      rcases Nat.lt_or_ge i l.length with h' | h'
      · exact h'
      · have := k1 (l.length - 1) x1 (by omega) h1; omega
    have hi0 : 0 < i := by
      rcases Nat.eq_zero_or_pos i with rfl | h'
      · have := k2 0 x0 (Nat.le_refl _) h0
        have := hbt.2 ⟨x0, h0, by omega⟩
        cases this
      · exact h'
    have ha : l[i - 1]? = some l[i - 1] := List.getElem?_eq_getElem (by omega)
    have hb' : l[i]? = some l[i] := List.getElem?_eq_getElem hil
    have na := h.nodes _ (List.mem_of_getElem? ha)
    have nb := h.nodes _ (List.mem_of_getElem? hb')
    have ta := k1 (i - 1) _ (by omega) ha
    have tb := k2 i _ (Nat.le_refl _) hb'
    have hw : IntKind.wrap .i64 ((i : Int) - 1) = ((i - 1 : Nat) : Int) := by have := h.len; rw [wrap64 (by omega) (by omega)]; omega
    rw [hw, getI_at ha, getI_at hb']
    simp only [Option.bind_some]
    have := na.1
    have := na.2.1
    have := nb.1
    have := nb.2.1
    rw [wrap64 (z := t - l[i - 1].Node_Time) (by omega) (by omega), wrap64 (z := l[i].Node_Time - l[i - 1].Node_Time) (by omega) (by omega)]
    obtain ⟨q1, e1, hq⟩ := toward_val n (⟨l[i - 1].Node_At_X, l[i - 1].Node_At_Y⟩ : TP) (⟨l[i].Node_At_X, l[i].Node_At_Y⟩ : TP) na.2.2.1 nb.2.2.1 (t - l[i - 1].Node_Time) (l[i].Node_Time - l[i - 1].Node_Time) (by omega) (by omega)
    rw [e1, Option.bind_some]
    obtain ⟨q2, e2, -⟩ := down_tot n (IntKind.wrap .i64 ((IntKind.wrap .i64 (l[i].Node_Height - l[i - 1].Node_Height)) * (t - l[i - 1].Node_Time))) (l[i].Node_Time - l[i - 1].Node_Time)
    rw [e2, Option.bind_some]
    obtain ⟨q3, e3⟩ := up_tot n (IntKind.wrap .i64 ((IntKind.wrap .i64 (l[i].Radius - l[i - 1].Radius)) * (t - l[i - 1].Node_Time))) (l[i].Node_Time - l[i - 1].Node_Time)
    rw [e3, Option.bind_some]
    obtain ⟨q4, e4⟩ := up_tot n (IntKind.wrap .i64 ((IntKind.wrap .i64 (l[i].Band - l[i - 1].Band)) * (t - l[i - 1].Node_Time))) (l[i].Node_Time - l[i - 1].Node_Time)
    rw [e4, Option.bind_some]
    exact ⟨_, rfl, rfl, hq⟩
theorem At_ok (n : Nat) (hn : 64 < n) (l : List TTubeNode) (h : TubeOk l) (hc : g12 n l = some 0) (t : Int) (now : TTubeNode) (e : g13 n l t = some (now, 0)) : now.Node_Time = t ∧ POk ⟨now.Node_At_X, now.Node_At_Y⟩ ∧ 0 ≤ t ∧ t ≤ 200000 ∧ ∀ x1, l[l.length - 1]? = some x1 → t ≤ x1.Node_Time := by
  have hp := h.pos
  have h0 : l[0]? = some l[0] := List.getElem?_eq_getElem hp
  have h1 : l[l.length - 1]? = some l[l.length - 1] := List.getElem?_eq_getElem (by omega)
  have b0 := h.nodes _ (List.mem_of_getElem? h0)
  have b1 := h.nodes _ (List.mem_of_getElem? h1)
  rcases At_cases n hn l h hc t _ _ h0 h1 with ⟨t0, t1, r, e1, e2⟩ | ⟨-, e2⟩
  · obtain ⟨r', e3, k1, k2⟩ := at_ok n hn l h t _ _ h0 h1 t0 t1
    rw [e2] at e
    rw [e1] at e3
    cases e; cases e3
    exact ⟨k1, k2, by have := b0.1; omega, by have := b1.2.1; omega, fun x1 hx => by rw [h1] at hx; cases hx; exact t1⟩
  · rw [e2] at e; cases e
theorem lat_mem {l : List TTubeNode} {t : Int} {x : TTubeNode} : x ∈ lat l t ↔ x ∈ l ∧ x.Node_Time > t := by simp [lat]
theorem bef_len (l : List TTubeNode) (t : Int) : (bef l t).length ≤ l.length := List.length_filter_le _ _
theorem lat_len (l : List TTubeNode) (t : Int) : (lat l t).length ≤ l.length := List.length_filter_le _ _
theorem cat_ok {L : List (List TTubeNode)} (h : L.length ≤ 64) (h2 : L.flatten.length ≤ 1000) : catO 48 L = some L.flatten := by
  unfold catO
  rw [if_pos (by omega), room_of (by omega) (by omega)]; rfl
theorem arrives_law (l : List TTubeNode) (c : TClearance) (t : Int) (k : TKind) (fix : TP) : g5 200300 l c t k fix = some true := by
  unfold g5
  rw [effect_fact, Option.bind_some, Bool.not_true, cond_false]
  rcases of_cases 200300 (by omega) l (⟨c.Call, 3, c.Value, c.Fix⟩ : TClearance) t k fix with ⟨y, hy, e1⟩ | ⟨ec, ok, -, hfix, now, e4, e1⟩
  · rw [e1, Option.bind_some, bne_iff_ne.2 hy, cond_true]
    cases (y == 0) <;> rfl
  obtain ⟨n1, n2, n3, n4, n5⟩ := At_ok 200300 (by omega) l ok ec t now e4
  have hp := ok.pos
  have hl := ok.len
  have h1 : l[l.length - 1]? = some l[l.length - 1] := List.getElem?_eq_getElem (by omega)
  have t1 := n5 _ h1
  have hw : IntKind.wrap .i64 ((l.length : Int) - 1) = ((l.length - 1 : Nat) : Int) := by rw [wrap64 (by omega) (by omega)]; omega
  have err : ∀ z : Int, z ≠ 0 → g11 200300 l (⟨c.Call, 3, c.Value, c.Fix⟩ : TClearance) t k fix = some ([], z) → _ := fun z hz e => by
    show ((g11 200300 l (⟨c.Call, 3, c.Value, c.Fix⟩ : TClearance) t k fix).bind fun x161 =>
      bif (x161.2 != (0)) then (bif (x161.2 == (0)) then some true else some ((x161.1.length : Int) == (0))) else
      bif ((l.length : Int) == (0)) then (bif (x161.2 == (0)) then some true else some ((x161.1.length : Int) == (0))) else
      (getI l (IntKind.wrap .i64 ((l.length : Int) - (1)))).bind fun x162 =>
      bif (t == x162.Node_Time) then (bif (x161.2 == (0)) then some true else some ((x161.1.length : Int) == (0))) else
      bif ((x161.1.length : Int) == (0)) then some false else
      (getI x161.1 (IntKind.wrap .i64 ((x161.1.length : Int) - (1)))).bind fun x163 =>
      (g13 200300 l t).bind fun x164 =>
      bif (x164.2 == (0)) then (bif (decide ((⟨x163.Node_At_X, x163.Node_At_Y⟩ : TP) = fix)) then (bif (x163.Node_Height == x164.1.Node_Height) then (bif (decide (x163.Node_Time ≥ t)) then some (x163.Radius == x164.1.Radius) else some false) else some false) else some false) else some false) = some true
    rw [e, Option.bind_some, bne_iff_ne.2 hz, cond_true]
    cases (z == 0) <;> rfl
  by_cases hlast : t = l[l.length - 1].Node_Time
  · have hla : lat l t = [] := by
      rw [List.eq_nil_iff_forall_not_mem]
      intro x hx
      obtain ⟨hx1, hx2⟩ := lat_mem.1 hx
      obtain ⟨i, hi⟩ := List.getElem?_of_mem hx1
      have := ok.le' (show i ≤ l.length - 1 by have := some_lt hi; omega) hi h1
      omega
    have hc : g31 200300 (tsk l (⟨c.Call, 3, c.Value, c.Fix⟩ : TClearance) t now k fix) = some ([], true, 0) := by
      unfold g31 tsk
      simp only [hla]
      rfl
    have hend : ofEnd 200300 l (⟨c.Call, 3, c.Value, c.Fix⟩ : TClearance) t now k fix = some (l, 0) := by
      unfold ofEnd
      rw [hc, Option.bind_some, room_of (by omega) (by omega)]
      rfl
    rw [e1, hend, Option.bind_some, show ((0 : Int) != 0) = false from rfl, cond_false, show ((l.length : Int) == 0) = false from beq_eq_false_iff_ne.2 (by omega), cond_false, hw, getI_at h1, Option.bind_some, beq_iff_eq.2 hlast, cond_true]
    rfl
  -- a later node
  have hmem : l[l.length - 1] ∈ lat l t := lat_mem.2 ⟨List.mem_of_getElem? h1, by omega⟩
  have hlp : 0 < (lat l t).length := List.length_pos_of_mem hmem
  have hy : (lat l t)[0]? = some (lat l t)[0] := List.getElem?_eq_getElem hlp
  have gy : getI (lat l t) 0 = some (lat l t)[0] := getI_at (i := 0) hy
  obtain ⟨my, ty⟩ := lat_mem.1 (List.mem_of_getElem? hy)
  have by' := ok.nodes _ my
  generalize hY : (lat l t)[0] = y at *
  obtain ⟨f, cc, ed, f0, f1, f2, f3, -⟩ := dist_val 200300 (by omega) (⟨now.Node_At_X, now.Node_At_Y⟩ : TP) (⟨y.Node_At_X, y.Node_At_Y⟩ : TP) n2 by'.2.2.1
  have hdt : 0 < y.Node_Time - now.Node_Time := by omega
  have := by'.2.1
  have hv0 : 0 ≤ f / (y.Node_Time - now.Node_Time) := Int.ediv_nonneg f0 (by omega)
  have hv1 : f / (y.Node_Time - now.Node_Time) ≤ f := Int.ediv_le_self _ f0
  have hsp : ∀ T : Ttask, T.later = lat l t → T.now_Node_Time = now.Node_Time → T.now_Node_At_X = now.Node_At_X → T.now_Node_At_Y = now.Node_At_Y → g57 200300 T = some (f / (y.Node_Time - now.Node_Time)) := fun T k1 k2 k3 k4 => by
    unfold g57
    rw [k1, k2, k3, k4, gy, Option.bind_some, ed, Option.bind_some, Option.bind_some]
    have hd : divO f (IntKind.wrap .i64 (y.Node_Time - now.Node_Time)) = some (f / (y.Node_Time - now.Node_Time)) := by
      rw [wrap64 (by omega) (by omega)]
      simp only [divO, if_neg (show ¬ y.Node_Time - now.Node_Time = 0 by omega)]
      rw [Int.tdiv_eq_ediv_of_nonneg f0]
    show (divO f _).bind _ = _
    rw [hd, Option.bind_some, wrap64 (by omega) (by omega)]
  generalize hV : f / (y.Node_Time - now.Node_Time) = v at *
  obtain ⟨f', c', ed', g0, g1, g2, g3, g4⟩ := dist_val 200300 (by omega) (⟨now.Node_At_X, now.Node_At_Y⟩ : TP) fix n2 hfix
  have hcar : ∀ r : List TTubeNode × Int, g45 200300 (tsk l (⟨c.Call, 3, c.Value, c.Fix⟩ : TClearance) t now k fix) = some r → g31 200300 (tsk l (⟨c.Call, 3, c.Value, c.Fix⟩ : TClearance) t now k fix) = some (r.1, false, r.2) := fun r hr => by
    unfold g31
    rw [hr]
    show (bif ((3 : Int) == 0) then _ else bif (((lat l t).length : Int) == 0) then _ else _) = _
    rw [show (((lat l t).length : Int) == 0) = false from beq_eq_false_iff_ne.2 (by omega)]
    rfl
  have hendE : ∀ z : Int, z ≠ 0 → g45 200300 (tsk l (⟨c.Call, 3, c.Value, c.Fix⟩ : TClearance) t now k fix) = some ([], z) → g11 200300 l (⟨c.Call, 3, c.Value, c.Fix⟩ : TClearance) t k fix = some ([], z) := fun z hz h => by
    rw [e1]; unfold ofEnd
    rw [hcar _ h, Option.bind_some, bne_iff_ne.2 hz]; rfl
  have hendO : ∀ m : List TTubeNode, m.length ≤ 1 → g45 200300 (tsk l (⟨c.Call, 3, c.Value, c.Fix⟩ : TClearance) t now k fix) = some (m, 0) → g11 200300 l (⟨c.Call, 3, c.Value, c.Fix⟩ : TClearance) t k fix = some ([], 2) ∨ g11 200300 l (⟨c.Call, 3, c.Value, c.Fix⟩ : TClearance) t k fix = some (bef l t ++ now :: m, 0) := fun m hm h => by
    have hb := bef_len l t
    have hcat : catO 48 ([bef l t, ([(⟨now.Node_Time, now.Node_At_X, now.Node_At_Y, now.Node_Height, now.Radius, now.Band⟩ : TTubeNode)] : List TTubeNode), m] : List (List TTubeNode)) = some (bef l t ++ now :: m) := by
      rw [cat_ok (by simp) (by simp; omega)]
      simp
    rw [e1]; unfold ofEnd
    rw [hcar _ h, Option.bind_some, show ((0 : Int) != 0) = false from rfl, cond_false, cond_false, hcat, Option.bind_some]
    cases decide (((bef l t ++ now :: m).length : Int) > 64)
    · right; rfl
    · left; rfl
  have fin : ∀ (pre : List TTubeNode) (e : TTubeNode), pre.length ≤ 100 → (⟨e.Node_At_X, e.Node_At_Y⟩ : TP) = fix → e.Node_Height = now.Node_Height → t ≤ e.Node_Time → e.Radius = now.Radius → g11 200300 l (⟨c.Call, 3, c.Value, c.Fix⟩ : TClearance) t k fix = some (pre ++ [e], 0) → _ := fun pre e hpre k1 k2 k3 k4 h => by
    show ((g11 200300 l (⟨c.Call, 3, c.Value, c.Fix⟩ : TClearance) t k fix).bind fun x161 =>
      bif (x161.2 != (0)) then (bif (x161.2 == (0)) then some true else some ((x161.1.length : Int) == (0))) else
      bif ((l.length : Int) == (0)) then (bif (x161.2 == (0)) then some true else some ((x161.1.length : Int) == (0))) else
      (getI l (IntKind.wrap .i64 ((l.length : Int) - (1)))).bind fun x162 =>
      bif (t == x162.Node_Time) then (bif (x161.2 == (0)) then some true else some ((x161.1.length : Int) == (0))) else
      bif ((x161.1.length : Int) == (0)) then some false else
      (getI x161.1 (IntKind.wrap .i64 ((x161.1.length : Int) - (1)))).bind fun x163 =>
      (g13 200300 l t).bind fun x164 =>
      bif (x164.2 == (0)) then (bif (decide ((⟨x163.Node_At_X, x163.Node_At_Y⟩ : TP) = fix)) then (bif (x163.Node_Height == x164.1.Node_Height) then (bif (decide (x163.Node_Time ≥ t)) then some (x163.Radius == x164.1.Radius) else some false) else some false) else some false) else some false) = some true
    have hle : (pre ++ [e]).length = pre.length + 1 := by simp
    have hwe : IntKind.wrap .i64 (((pre ++ [e]).length : Int) - 1) = ((pre.length : Nat) : Int) := by rw [hle, wrap64 (by omega) (by omega)]; omega
    have hge : (pre ++ [e])[pre.length]? = some e := by simp
    rw [h, Option.bind_some, show ((0 : Int) != 0) = false from rfl, cond_false, show ((l.length : Int) == 0) = false from beq_eq_false_iff_ne.2 (by omega), cond_false, hw, getI_at h1, Option.bind_some, show (t == l[l.length - 1].Node_Time) = false from beq_eq_false_iff_ne.2 hlast, cond_false, show (((pre ++ [e]).length : Int) == 0) = false from beq_eq_false_iff_ne.2 (by rw [hle]; omega), cond_false, hwe, getI_at hge, Option.bind_some, e4, Option.bind_some, decide_eq_true k1, k2, k4, decide_eq_true (show e.Node_Time ≥ t from k3)]
    simp
  have eq_fix : g45 200300 (tsk l (⟨c.Call, 3, c.Value, c.Fix⟩ : TClearance) t now k fix) = bif (v == 0) then some ([], 10) else bif (c' == 0) then some ([], 0) else (g36 200300 c' v).bind fun x => bif (decide ((IntKind.wrap .i64 (now.Node_Time + x.1)) > (200000))) then some ([], 12) else some (([(⟨(IntKind.wrap .i64 (now.Node_Time + x.1)), fix.X, fix.Y, now.Node_Height, now.Radius, now.Band⟩ : TTubeNode)] : List TTubeNode), 0) := by
    unfold g45
    rw [hsp _ rfl rfl rfl rfl, Option.bind_some]
    cases (v == 0)
    · simp only [cond_false]
      show (g17 200300 (⟨now.Node_At_X, now.Node_At_Y⟩ : TP) fix).bind _ = _
      rw [ed', Option.bind_some]
      rfl
    · rfl
  by_cases hv : v = 0
  · rw [show (v == 0) = true from beq_iff_eq.2 hv, cond_true] at eq_fix
    exact err 10 (by decide) (hendE 10 (by decide) eq_fix)
  rw [show (v == 0) = false from beq_eq_false_iff_ne.2 hv, cond_false] at eq_fix
  by_cases hc0 : c' = 0
  · rw [show (c' == 0) = true from beq_iff_eq.2 hc0, cond_true] at eq_fix
    have hb := bef_len l t
    rcases hendO [] (by simp) eq_fix with h | h
    · exact err 2 (by decide) h
    · exact fin (bef l t) now (by omega) (g4 hc0) rfl (by omega) rfl h
  rw [show (c' == 0) = false from beq_eq_false_iff_ne.2 hc0, cond_false] at eq_fix
  obtain ⟨q, hq, q0, q1, -⟩ := up_val 200300 c' v (by omega) (by omega) (by omega)
  rw [hq, Option.bind_some, wrap64 (z := now.Node_Time + q) (by omega) (by omega)] at eq_fix
  by_cases hbig : now.Node_Time + q > 200000
  · rw [decide_eq_true hbig, cond_true] at eq_fix
    exact err 12 (by decide) (hendE 12 (by decide) eq_fix)
  rw [decide_eq_false hbig, cond_false] at eq_fix
  have hb := bef_len l t
  rcases hendO _ (by simp) eq_fix with h | h
  · exact err 2 (by decide) h
  · exact fin (bef l t ++ [now]) (⟨now.Node_Time + q, fix.X, fix.Y, now.Node_Height, now.Radius, now.Band⟩ : TTubeNode) (by simp; omega) rfl rfl (by show t ≤ now.Node_Time + q; omega) rfl (by rw [h]; simp)
end Go.Proofs.YtpjepkldnnfncaaDoor
