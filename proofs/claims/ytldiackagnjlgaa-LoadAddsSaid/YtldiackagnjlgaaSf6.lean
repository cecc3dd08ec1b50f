/- The node at a time is within bounds. -/
import Derived.Test.YtldiackagnjlgaaSf1
import Derived.Test.YtldiackagnjlgaaSf5
set_option linter.unusedVariables false
set_option linter.unusedSimpArgs false
namespace Go.Proofs.Ytldiackagnjlgaa

theorem toward_val (n : Nat) (a b : TP) (ha : POk a) (hb : POk b) (c d : Int) (hc : 0 ≤ c ∧ c ≤ d) (hd : 0 < d ∧ d ≤ 200000) : ∃ r : TP, g66 n a b c d = some (r, 0) ∧ POk r := by
  obtain ⟨a1, a2, a3, a4⟩ := ha
  obtain ⟨b1, b2, b3, b4⟩ := hb
  have ea : g31 n a = some 0 := by
    rcases pcheck n a with ⟨e, -⟩ | ⟨-, h⟩
    · exact e
    · exact absurd ⟨a1, a2, a3, a4⟩ h
  have eb : g31 n b = some 0 := by
    rcases pcheck n b with ⟨e, -⟩ | ⟨-, h⟩
    · exact e
    · exact absurd ⟨b1, b2, b3, b4⟩ h
  obtain ⟨q1, e1, u1, u2⟩ := down_mid n (b.X - a.X) c d (by omega) hc hd
  obtain ⟨q2, e2, w1, w2⟩ := down_mid n (b.Y - a.Y) c d (by omega) hc hd
  have x1 : -1000000 ≤ a.X + q1 ∧ a.X + q1 ≤ 1000000 := by
    rcases Int.lt_or_le (b.X - a.X) 0 with h | h
    · have := u2 h; omega
    · have := u1 h; omega
  have x2 : -1000000 ≤ a.Y + q2 ∧ a.Y + q2 ≤ 1000000 := by
    rcases Int.lt_or_le (b.Y - a.Y) 0 with h | h
    · have := w2 h; omega
    · have := w1 h; omega
  unfold g66
  rw [decide_eq_false (show ¬ d ≤ 0 by omega), decide_eq_false (show ¬ d > 200000 by omega), decide_eq_false (show ¬ c < 0 by omega), decide_eq_false (show ¬ c > d by omega), ea, eb, wrap64 (z := b.X - a.X) (by omega) (by omega), wrap64 (z := b.Y - a.Y) (by omega) (by omega)]
  simp only [cond_false, Option.bind_some, show ((0 : Int) != 0) = false from rfl]
  rw [e1, e2]
  simp only [Option.bind_some]
  rw [wrap64 (z := a.X + q1) (by omega) (by omega), wrap64 (z := a.Y + q2) (by omega) (by omega)]
  exact ⟨_, rfl, x1.1, x1.2, x2.1, x2.2⟩
theorem at_ok (n : Nat) (hn : 64 < n) (l : List TTubeNode) (h : TubeOk l) (t : Int) (x0 x1 : TTubeNode) (h0 : l[0]? = some x0) (h1 : l[l.length - 1]? = some x1) (ht0 : x0.Node_Time ≤ t) (ht1 : t ≤ x1.Node_Time) : ∃ r : TTubeNode, g43 n l t = some r ∧ r.Node_Time = t ∧ POk ⟨r.Node_At_X, r.Node_At_Y⟩ := by
  have hp := h.pos
  have b0 := h.nodes x0 (List.mem_of_getElem? h0)
  have b1 := h.nodes x1 (List.mem_of_getElem? h1)
  obtain ⟨i, hi, k1, k2, b, hb, hbt⟩ := search_eq n hn l h t (by have := b0.1; have := b1.2.1; omega)
  unfold g43
  rw [hb, Option.bind_some]
  cases b with
  | true =>
    obtain ⟨x, hx, hxt⟩ := hbt.1 rfl
    simp only [cond_true]
    rw [getI_at hx]; exact ⟨_, rfl, hxt, (h.nodes x (List.mem_of_getElem? hx)).2.2.1⟩
  | false =>
    simp only [cond_false]
    have hil : i < l.length := by
      rcases Nat.lt_or_ge i l.length with h' | h'
      · exact h'
      · have := k1 (l.length - 1) x1 (by omega) h1; omega
    have hi0 : 0 < i := by
      rcases Nat.eq_zero_or_pos i with rfl | h'
      · have := k2 0 x0 (Nat.le_refl _) h0
        have := hbt.2 ⟨x0, h0, by omega⟩
        cases this
      · exact h'
    have ha : l[i - 1]? = some l[i - 1] := List.getElem?_eq_getElem (by omega)
    have hb' : l[i]? = some l[i] := List.getElem?_eq_getElem hil
    have na := h.nodes _ (List.mem_of_getElem? ha)
    have nb := h.nodes _ (List.mem_of_getElem? hb')
    have ta := k1 (i - 1) _ (by omega) ha
    have tb := k2 i _ (Nat.le_refl _) hb'
    have hw : IntKind.wrap .i64 ((i : Int) - 1) = ((i - 1 : Nat) : Int) := by have := h.len; rw [wrap64 (by omega) (by omega)]; omega
    rw [hw, getI_at ha, getI_at hb']
    simp only [Option.bind_some]
    have := na.1
    have := na.2.1
    have := nb.1
    have := nb.2.1
    rw [wrap64 (z := t - l[i - 1].Node_Time) (by omega) (by omega), wrap64 (z := l[i].Node_Time - l[i - 1].Node_Time) (by omega) (by omega)]
    obtain ⟨q1, e1, hq⟩ := toward_val n (⟨l[i - 1].Node_At_X, l[i - 1].Node_At_Y⟩ : TP) (⟨l[i].Node_At_X, l[i].Node_At_Y⟩ : TP) na.2.2.1 nb.2.2.1 (t - l[i - 1].Node_Time) (l[i].Node_Time - l[i - 1].Node_Time) (by omega) (by omega)
    rw [e1, Option.bind_some]
    obtain ⟨q2, e2, -⟩ := down_tot n (IntKind.wrap .i64 ((IntKind.wrap .i64 (l[i].Node_Height - l[i - 1].Node_Height)) * (t - l[i - 1].Node_Time))) (l[i].Node_Time - l[i - 1].Node_Time)
    rw [e2, Option.bind_some]
    obtain ⟨q3, e3⟩ := up_tot n (IntKind.wrap .i64 ((IntKind.wrap .i64 (l[i].Radius - l[i - 1].Radius)) * (t - l[i - 1].Node_Time))) (l[i].Node_Time - l[i - 1].Node_Time)
    rw [e3, Option.bind_some]
    obtain ⟨q4, e4⟩ := up_tot n (IntKind.wrap .i64 ((IntKind.wrap .i64 (l[i].Band - l[i - 1].Band)) * (t - l[i - 1].Node_Time))) (l[i].Node_Time - l[i - 1].Node_Time)
    rw [e4, Option.bind_some]
    exact ⟨_, rfl, rfl, hq⟩
theorem At_ok (n : Nat) (hn : 64 < n) (l : List TTubeNode) (h : TubeOk l) (hc : g28 n l = some 0) (t : Int) (now : TTubeNode) (e : g20 n l t = some (now, 0)) : now.Node_Time = t ∧ POk ⟨now.Node_At_X, now.Node_At_Y⟩ ∧ 0 ≤ t ∧ t ≤ 200000 ∧ ∀ x1, l[l.length - 1]? = some x1 → t ≤ x1.Node_Time := by
  have hp := h.pos
  have h0 : l[0]? = some l[0] := List.getElem?_eq_getElem hp
  have h1 : l[l.length - 1]? = some l[l.length - 1] := List.getElem?_eq_getElem (by omega)
  have b0 := h.nodes _ (List.mem_of_getElem? h0)
  have b1 := h.nodes _ (List.mem_of_getElem? h1)
  rcases At_cases n hn l h hc t _ _ h0 h1 with ⟨t0, t1, r, e1, e2⟩ | ⟨-, e2⟩
  · obtain ⟨r', e3, k1, k2⟩ := at_ok n hn l h t _ _ h0 h1 t0 t1
    rw [e2] at e
    rw [e1] at e3
    cases e; cases e3
    exact ⟨k1, k2, by have := b0.1; omega, by have := b1.2.1; omega, fun x1 hx => by rw [h1] at hx; cases hx; exact t1⟩
  · rw [e2] at e; cases e
end Go.Proofs.Ytldiackagnjlgaa
