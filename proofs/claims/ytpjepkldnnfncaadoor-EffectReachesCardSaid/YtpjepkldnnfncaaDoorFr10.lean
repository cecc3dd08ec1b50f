/- height: the later nodes, with a node at the end of the climb, each at the height of its time; the law EffectReaches as a plain program. -/
import Derived.Test.YtpjepkldnnfncaaDoorFr9
import Derived.Test.YtpjepkldnnfncaaDoorFf2
import Derived.Test.YtpjepkldnnfncaaDoorFr2
set_option linter.unusedVariables false
set_option linter.unusedSimpArgs false
namespace Go.Proofs.YtpjepkldnnfncaaDoor

theorem first_le (n : Nat) (hn : 64 < n) (l : List TTubeNode) (ok : TubeOk l) (ec : g12 n l = some 0) (t : Int) (now x0 x1 : TTubeNode) (h0 : l[0]? = some x0) (h1 : l[l.length - 1]? = some x1) (e : g13 n l t = some (now, 0)) : x0.Node_Time ≤ t := by
  rcases At_cases n hn l ok ec t x0 x1 h0 h1 with ⟨k, -⟩ | ⟨-, k⟩
  · exact k
  · rw [k] at e; cases e
theorem height_val (n : Nat) (hn : 200200 < n) (l : List TTubeNode) (ok : TubeOk l) (ec : g12 n l = some 0) (c : TClearance) (t : Int) (now : TTubeNode) (k : TKind) (fix : TP) (nt : now.Node_Time = t) (ht : 0 ≤ t ∧ t ≤ 200000) (N : Int) (hc : ClimbOk k now.Node_Height c.Value N) (e15 : g15 n k now.Node_Height c.Value = some (N, 0)) (e4 : g13 n l t = some (now, 0)) :
    ∃ M : List TTubeNode, MidOk t N M ∧ M.length ≤ 65 ∧ g42 n (tsk l c t now k fix) = some (M.map (hN now.Node_Height c.Value t N), 0) := by
  have hlen := ok.len
  have hpos := ok.pos
  have hll := lat_len l t
  have hNN := hc.hN
  have lp := fun (R : List TTubeNode) (hR : MidOk t N R) (hl : R.length ≤ 65) => height_loop n (tsk l c t now k fix) N (t + N) R.length (by omega) (by show t + N = now.Node_Time + N; omega) ⟨hNN.1, by omega⟩ hc.hh hc.hto (by show 0 ≤ now.Node_Time ∧ now.Node_Time ≤ 200000; omega) R [] n (fun x hx => ⟨by show now.Node_Time < _; have := hR.after x hx; omega, (hR.nodes x hx).2.1⟩) (by simp) (by omega)
  have hw : IntKind.wrap .i64 ((tsk l c t now k fix).now_Node_Time + N) = t + N := by
    show IntKind.wrap .i64 (now.Node_Time + N) = t + N
    rw [nt, wrap64 (by omega) (by omega)]
  have hnow : (tsk l c t now k fix).now_Node_Time = t := nt
  have hlat : (tsk l c t now k fix).later = lat l t := rfl
  have hwl : 0 < (lat l t).length → IntKind.wrap .i64 (((lat l t).length : Int) - 1) = (((lat l t).length - 1 : Nat) : Int) := fun h => by rw [wrap64 (by omega) (by omega)]; omega
  have start : ∀ X : Option (List TTubeNode × Int), ((roomO (lat l t).length 48).bind fun _ => X) = X := fun X => by rw [room_of (by omega) (by omega), Option.bind_some]
  have e15' : g15 n (⟨(tsk l c t now k fix).kind_Name, (tsk l c t now k fix).kind_Wake, (tsk l c t now k fix).kind_Ceiling, (tsk l c t now k fix).kind_Climb, (tsk l c t now k fix).kind_Descent, (tsk l c t now k fix).kind_Slow, (tsk l c t now k fix).kind_Fast⟩ : TKind) (tsk l c t now k fix).now_Node_Height (tsk l c t now k fix).Clearance_Value = some (N, 0) := e15
  by_cases hNp : N > 0
  case neg =>
    have hM := mid_plain (t := t) (N := N) ok (.inl (by omega))
    refine ⟨lat l t, hM, by omega, ?_⟩
    unfold g42
    rw [e15', Option.bind_some]
    simp only [show ((0 : Int) != 0) = false from rfl, cond_false, hw, hlat]
    rw [start, decide_eq_false hNp, cond_false]
    exact (lp _ hM (by omega)).trans (by rw [hnow]; rfl)
  by_cases hl0 : ((lat l t).length : Int) > 0
  case neg =>
    have hM := mid_plain (t := t) (N := N) ok (.inr (.inl fun x hx => by have := List.length_pos_of_mem hx; omega))
    refine ⟨lat l t, hM, by omega, ?_⟩
    unfold g42
    rw [e15', Option.bind_some]
    simp only [show ((0 : Int) != 0) = false from rfl, cond_false, hw, hlat]
    rw [start, decide_eq_true hNp, cond_true, decide_eq_false hl0, cond_false]
    exact (lp _ hM (by omega)).trans (by rw [hnow]; rfl)
  have h1 : (lat l t)[(lat l t).length - 1]? = some (lat l t)[(lat l t).length - 1] := List.getElem?_eq_getElem (by omega)
  generalize hx1 : (lat l t)[(lat l t).length - 1] = x1 at h1
  have hs : Srt (lat l t) := List.Pairwise.filter _ ok.srt
  by_cases hlast : t + N < x1.Node_Time
  case neg =>
    have hM := mid_plain (t := t) (N := N) ok (.inr (.inl fun x hx => by
      obtain ⟨j, hj⟩ := List.getElem?_of_mem hx
      have := hs.le (show j ≤ (lat l t).length - 1 by have := some_lt hj; omega) hj h1
      omega))
    refine ⟨lat l t, hM, by omega, ?_⟩
    unfold g42
    rw [e15', Option.bind_some]
    simp only [show ((0 : Int) != 0) = false from rfl, cond_false, hw, hlat]
    rw [start, decide_eq_true hNp, cond_true, decide_eq_true hl0, cond_true, hwl (by omega), getI_at h1, Option.bind_some, decide_eq_false hlast, cond_false]
    exact (lp _ hM (by omega)).trans (by rw [hnow]; rfl)
  have hidx : g53 n (lat l t) (t + N) = some (idxL (fun x : TTubeNode => decide (x.Node_Time ≥ t + N)) (lat l t)) := by
    unfold g53
    refine index_loop (fun x : TTubeNode => decide (x.Node_Time ≥ t + N)) (lat l t) (by omega) (S := fun y : Int => S53_0 n (lat l t) (t + N) (0) ((lat l t).length : Int) y) (fun i x hx => ?_) ?_ n (by omega)
    · have := some_lt hx
      unfold S53_0
      rw [decide_eq_true (show (i : Int) < _ by omega), cond_true, getI_at hx, Option.bind_some, wS (by omega)]
      unfold g54
      rw [Option.bind_some]
      cases decide (x.Node_Time ≥ t + N) <;> rfl
    · unfold S53_0
      rw [decide_eq_false (Int.lt_irrefl _)]; rfl
  have hge : 0 ≤ idxL (fun x : TTubeNode => decide (x.Node_Time ≥ t + N)) (lat l t) := by
    rcases Int.lt_or_le (idxL (fun x : TTubeNode => decide (x.Node_Time ≥ t + N)) (lat l t)) 0 with h | h
    · have := (idxL_neg _ _).1 h x1 (List.mem_of_getElem? h1)
      have := of_decide_eq_false this
      omega
    · exact h
  obtain ⟨y, hy, hyt, hbefore⟩ := idxL_at _ _ hge
  have hlt := (idxL_ge (fun x : TTubeNode => decide (x.Node_Time ≥ t + N)) (lat l t)).2
  generalize idxL (fun x : TTubeNode => decide (x.Node_Time ≥ t + N)) (lat l t) = z at *
  obtain ⟨i, rfl⟩ : ∃ i : Nat, z = (i : Int) := ⟨z.toNat, by omega⟩
  rw [Int.toNat_natCast] at hy hbefore
  have hyt' : y.Node_Time ≥ t + N := of_decide_eq_true hyt
  by_cases he : y.Node_Time = t + N
  · have hM := mid_plain (t := t) (N := N) ok (.inr (.inr ⟨y, List.mem_of_getElem? hy, he⟩))
    refine ⟨lat l t, hM, by omega, ?_⟩
    unfold g42
    rw [e15', Option.bind_some]
    simp only [show ((0 : Int) != 0) = false from rfl, cond_false, hw, hlat]
    rw [start, decide_eq_true hNp, cond_true, decide_eq_true hl0, cond_true, hwl (by omega), getI_at h1, Option.bind_some, decide_eq_true hlast, cond_true, hidx, Option.bind_some, getI_at hy, Option.bind_some, show (y.Node_Time != t + N) = false from by rw [he]; simp, cond_false]
    exact (lp _ hM (by omega)).trans (by rw [hnow]; rfl)
  · have hx0 : l[0]? = some l[0] := List.getElem?_eq_getElem (by omega)
    have hxl : l[l.length - 1]? = some l[l.length - 1] := List.getElem?_eq_getElem (by omega)
    have hf := first_le n (by omega) l ok ec t now _ _ hx0 hxl e4
    have hend : t + N ≤ l[l.length - 1].Node_Time := by
      obtain ⟨j, hj⟩ := List.getElem?_of_mem (lat_mem.1 (List.mem_of_getElem? h1)).1
      have := ok.le' (show j ≤ l.length - 1 by have := some_lt hj; omega) hj hxl
      omega
    obtain ⟨r, er, hr, hrt, -⟩ := At_seg n (by omega) l ok ec (t + N) _ _ hx0 hxl (by omega) hend
    have hM := mid_ins ok hNp hy (show y.Node_Time > t + N by omega) (fun j hj z hz => by have := of_decide_eq_false (hbefore j hj z hz); omega) hr hrt
    have hin : insO 48 (lat l t) (i : Int) [r] = some ((lat l t).take i ++ r :: (lat l t).drop i) := by
      unfold insO
      rw [if_pos ⟨by omega, by omega, by simp, by simp only [List.length_singleton]; omega, by simp only [List.length_singleton]; omega⟩, Int.toNat_natCast]
      simp
    have hML : ((lat l t).take i ++ r :: (lat l t).drop i).length ≤ 65 := by simp; omega
    refine ⟨_, hM, hML, ?_⟩
    unfold g42
    rw [e15', Option.bind_some]
    simp only [show ((0 : Int) != 0) = false from rfl, cond_false, hw, hlat]
    rw [start, decide_eq_true hNp, cond_true, decide_eq_true hl0, cond_true, hwl (by omega), getI_at h1, Option.bind_some, decide_eq_true hlast, cond_true, hidx, Option.bind_some, getI_at hy, Option.bind_some, bne_iff_ne.2 he, cond_true]
    have er' : g13 n (tsk l c t now k fix).whole (t + N) = some (r, 0) := er
    rw [er', Option.bind_some]
    simp only [hin, Option.bind_some]
    exact (lp _ hM hML).trans (by rw [hnow]; rfl)
theorem reaches_law (l : List TTubeNode) (call : ByteArray) (to t : Int) (k : TKind) : g4 200300 l call to t k = some true := by
  unfold g4
  rw [effect_fact, Option.bind_some, Bool.not_true, cond_false]
  obtain ⟨b, eb⟩ : ∃ b, g10 200300 ([l] : List (List TTubeNode)) 1 400 = some b := by
    rcases small_cases 200300 (by omega) [l] 1 400 (by simp) (by simp) with ⟨h, -⟩ | h
    · exact ⟨_, h⟩
    · exact ⟨_, h⟩
  rw [eb, Option.bind_some]
  cases b
  · rfl
  rw [Bool.not_true, cond_false]
  rcases of_cases 200300 (by omega) l (⟨call, 0, to, ⟨#[]⟩⟩ : TClearance) t k (⟨0, 0⟩ : TP) with ⟨y, hy, e1⟩ | ⟨ec, ok, -, hfix, now, e4, e1⟩
  · rw [e1, Option.bind_some, bne_iff_ne.2 hy, cond_true]; rfl
  obtain ⟨n1, n2, n3, n4, n5⟩ := At_ok 200300 (by omega) l ok ec t now e4
  have hlen := ok.len
  have hpos := ok.pos
  have hx0 : l[0]? = some l[0] := List.getElem?_eq_getElem (by omega)
  have hxl : l[l.length - 1]? = some l[l.length - 1] := List.getElem?_eq_getElem (by omega)
  have hf := first_le 200300 (by omega) l ok ec t now _ _ hx0 hxl e4
  obtain ⟨r, er, hnow, -, -⟩ := At_seg 200300 (by omega) l ok ec t _ _ hx0 hxl hf (n5 _ hxl)
  rw [e4] at er
  cases er
  have err : ∀ z : Int, z ≠ 0 → g42 200300 (tsk l (⟨call, 0, to, ⟨#[]⟩⟩ : TClearance) t now k (⟨0, 0⟩ : TP)) = some ([], z) → ofEnd 200300 l (⟨call, 0, to, ⟨#[]⟩⟩ : TClearance) t now k (⟨0, 0⟩ : TP) = some ([], z) := fun z hz h => by
    unfold ofEnd g31
    rw [show ((tsk l (⟨call, 0, to, ⟨#[]⟩⟩ : TClearance) t now k (⟨0, 0⟩ : TP)).Clearance_Kind == 0) = true from rfl, cond_true, h, Option.bind_some, Option.bind_some]
    simp only [bne_iff_ne.2 hz, cond_true]
  obtain ⟨⟨N, q⟩, e15, hcl⟩ := climb_cases 200300 (by omega) k now.Node_Height to
  by_cases hq : q = 0
  case neg =>
    have h42 : g42 200300 (tsk l (⟨call, 0, to, ⟨#[]⟩⟩ : TClearance) t now k (⟨0, 0⟩ : TP)) = some ([], q) := by
      unfold g42
      show (g15 200300 k now.Node_Height to).bind _ = _
      rw [e15, Option.bind_some]
      simp only [bne_iff_ne.2 hq, cond_true]
    rw [e1, err q hq h42, Option.bind_some, bne_iff_ne.2 hq, cond_true]; rfl
  subst hq
  have hc : ClimbOk k now.Node_Height to N := hcl rfl
  obtain ⟨M, hM, hML, h42⟩ := height_val 200300 (by omega) l ok ec (⟨call, 0, to, ⟨#[]⟩⟩ : TClearance) t now k (⟨0, 0⟩ : TP) n1 ⟨n3, n4⟩ N hc e15 e4
  have hb := bef_len l t
  have hcat : catO 48 ([bef l t, ([(⟨now.Node_Time, now.Node_At_X, now.Node_At_Y, now.Node_Height, now.Radius, now.Band⟩ : TTubeNode)] : List TTubeNode), M.map (hN now.Node_Height to t N)] : List (List TTubeNode)) = some (bef l t ++ now :: M.map (hN now.Node_Height to t N)) := by
    rw [cat_ok (by simp) (by simp; omega)]
    simp
  have hend : ofEnd 200300 l (⟨call, 0, to, ⟨#[]⟩⟩ : TClearance) t now k (⟨0, 0⟩ : TP) = bif (decide (((bef l t ++ now :: M.map (hN now.Node_Height to t N)).length : Int) > (64))) then some ([], (2)) else some (bef l t ++ now :: M.map (hN now.Node_Height to t N), (0)) := by
    unfold ofEnd g31
    rw [show ((tsk l (⟨call, 0, to, ⟨#[]⟩⟩ : TClearance) t now k (⟨0, 0⟩ : TP)).Clearance_Kind == 0) = true from rfl, cond_true, h42, Option.bind_some, Option.bind_some]
    simp only [show ((0 : Int) != 0) = false from rfl, cond_false, hcat, Option.bind_some]
  by_cases h64 : ((bef l t ++ now :: M.map (hN now.Node_Height to t N)).length : Int) > 64
  · rw [e1, hend, decide_eq_true h64, cond_true, Option.bind_some]; rfl
  rw [decide_eq_false h64, cond_false] at hend
  rw [e1, hend, Option.bind_some]
  simp only [show ((0 : Int) != 0) = false from rfl, cond_false]
  rw [e4, Option.bind_some]
  simp only [show ((0 : Int) != 0) = false from rfl, cond_false]
  rw [e15, Option.bind_some]
  simp only [show ((0 : Int) != 0) = false from rfl, cond_false]
  have hok := m_ok ok hnow n1 hM hc (by omega)
  have hsr := m_srt (h0 := now.Node_Height) (to := to) ok n1 hM
  have hmem : now ∈ bef l t ++ now :: M.map (hN now.Node_Height to t N) := List.mem_append.2 (.inr (List.mem_cons_self ..))
  have hhok := fun u hu r hr h => m_hok (u := u) (r := r) ok n1 hM hc hu hr h
  generalize bef l t ++ now :: M.map (hN now.Node_Height to t N) = m at *
  have mp := hok.pos
  have ml := hok.len
  have hm0 : m[0]? = some m[0] := List.getElem?_eq_getElem (by omega)
  have hml : m[m.length - 1]? = some m[m.length - 1] := List.getElem?_eq_getElem (by omega)
  rw [show ((m.length : Int) == 0) = false from beq_eq_false_iff_ne.2 (by omega), cond_false]
  refine reach_loop 200300 (by omega) m ml _ now hml (hok.nodes _ (List.mem_of_getElem? hml)).2.1 k to t N hc ⟨n3, n4⟩ (List.length_pos_iff.1 (by omega)) fun u hu hul => ?_
  have hm0t : m[0].Node_Time ≤ u := by
    obtain ⟨j, hj⟩ := List.getElem?_of_mem hmem
    have := hsr.le (Nat.zero_le j) hm0 hj
    omega
  obtain ⟨r, er, hr, hrt, hrs⟩ := At_seg 200300 (by omega) m hok (check_ok 200300 (by omega) m hok) u _ _ hm0 hml hm0t hul
  exact ⟨r, er, hhok u hu r hrt hrs, hr.2.2.2.1, hr.2.2.2.2.1⟩
end Go.Proofs.YtpjepkldnnfncaaDoor
