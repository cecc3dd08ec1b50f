/- Eb1 to Eb6. -/
import Derived.Test.YtbbfpbngnkjkdaaDoorGra
import Derived.Test.YtbbfpbngnkjkdaaDoorSn3
/- At inside of a valid tube: all coordinates; two roundings one after the other. -/
set_option linter.unusedVariables false
set_option maxHeartbeats 4000000
set_option linter.unusedSimpArgs false
namespace Go.Proofs.YtbbfpbngnkjkdaaDoor

theorem toward_full (n : Nat) (a b : TP) (ha : POk a) (hb : POk b) (c d : Int) (hc : 0 ≤ c ∧ c ≤ d) (hd : 0 < d ∧ d ≤ 200000) : ∃ r : TP, g36 n a b c d = some (r, 0) ∧ POk r ∧ r.X = a.X + ((b.X - a.X) * c) / d ∧ r.Y = a.Y + ((b.Y - a.Y) * c) / d := by
  obtain ⟨r, hr, hr2⟩ := toward_val n a b ha hb c d hc hd
  refine ⟨r, hr, hr2, ?_⟩
  obtain ⟨a1, a2, a3, a4⟩ := ha
  obtain ⟨b1, b2, b3, b4⟩ := hb
  have ea : g20 n a = some 0 := by
    rcases pcheck n a with ⟨e, -⟩ | ⟨-, h⟩
    · exact e
    · exact absurd ⟨a1, a2, a3, a4⟩ h
  have eb : g20 n b = some 0 := by
    rcases pcheck n b with ⟨e, -⟩ | ⟨-, h⟩
    · exact e
    · exact absurd ⟨b1, b2, b3, b4⟩ h
  have p1 := prod_bound (D := b.X - a.X) (c := c) (M := 2000000) (by omega) (by omega) (by decide)
  have p2 := prod_bound (D := b.Y - a.Y) (c := c) (M := 2000000) (by omega) (by omega) (by decide)
  have e1 := down_exact n ((b.X - a.X) * c) d p1 (by omega)
  have e2 := down_exact n ((b.Y - a.Y) * c) d p2 (by omega)
  obtain ⟨q1, f1, u1, u2⟩ := down_mid n (b.X - a.X) c d (by omega) hc hd
  obtain ⟨q2, f2, w1, w2⟩ := down_mid n (b.Y - a.Y) c d (by omega) hc hd
  rw [wrap64 (z := (b.X - a.X) * c) (by omega) (by omega), e1] at f1
  rw [wrap64 (z := (b.Y - a.Y) * c) (by omega) (by omega), e2] at f2
  have g1 : (b.X - a.X) * c / d = q1 := congrArg Prod.fst (Option.some.inj f1)
  have g2 : (b.Y - a.Y) * c / d = q2 := congrArg Prod.fst (Option.some.inj f2)
  have x1 : -1000000 ≤ a.X + q1 ∧ a.X + q1 ≤ 1000000 := by
    rcases Int.lt_or_le (b.X - a.X) 0 with h | h
    · have := u2 h; omega
    · have := u1 h; omega
  have x2 : -1000000 ≤ a.Y + q2 ∧ a.Y + q2 ≤ 1000000 := by
    rcases Int.lt_or_le (b.Y - a.Y) 0 with h | h
    · have := w2 h; omega
    · have := w1 h; omega
  unfold g36 at hr
  rw [decide_eq_false (show ¬ d ≤ 0 by omega), decide_eq_false (show ¬ d > 200000 by omega), decide_eq_false (show ¬ c < 0 by omega), decide_eq_false (show ¬ c > d by omega), ea, eb, wrap64 (z := b.X - a.X) (by omega) (by omega), wrap64 (z := b.Y - a.Y) (by omega) (by omega), wrap64 (z := (b.X - a.X) * c) (by omega) (by omega), wrap64 (z := (b.Y - a.Y) * c) (by omega) (by omega)] at hr
  simp only [cond_false, Option.bind_some, show ((0 : Int) != 0) = false from rfl] at hr
  rw [e1, e2] at hr
  simp only [Option.bind_some] at hr
  rw [g1, g2, wrap64 (z := a.X + q1) (by omega) (by omega), wrap64 (z := a.Y + q2) (by omega) (by omega)] at hr
  have hrr : (⟨a.X + q1, a.Y + q2⟩ : TP) = r := congrArg Prod.fst (Option.some.inj hr)
  rw [← hrr, g1, g2]
  exact ⟨rfl, rfl⟩
theorem At_full (n : Nat) (hn : 64 < n) (l : List TTubeNode) (h : TubeOk l) (hc : g7 n l = some 0) (u : Int) (x0 x1 : TTubeNode) (h0 : l[0]? = some x0) (h1 : l[l.length - 1]? = some x1) (ht0 : x0.Node_Time ≤ u) (ht1 : u ≤ x1.Node_Time) :
    ∃ r : TTubeNode, g8 n l u = some (r, 0) ∧ NodeB r ∧ r.Node_Time = u ∧ ((∃ i : Nat, l[i]? = some r) ∨ ∃ (i : Nat) (a b : TTubeNode), l[i]? = some a ∧ l[i + 1]? = some b ∧ a.Node_Time < u ∧ u < b.Node_Time ∧ r.Node_Height = a.Node_Height + ((b.Node_Height - a.Node_Height) * (u - a.Node_Time)) / (b.Node_Time - a.Node_Time) ∧ r.Node_At_X = a.Node_At_X + ((b.Node_At_X - a.Node_At_X) * (u - a.Node_Time)) / (b.Node_Time - a.Node_Time) ∧ r.Node_At_Y = a.Node_At_Y + ((b.Node_At_Y - a.Node_At_Y) * (u - a.Node_Time)) / (b.Node_Time - a.Node_Time)) := by
  have hp := h.pos
  have b0 := h.nodes x0 (List.mem_of_getElem? h0)
  have b1 := h.nodes x1 (List.mem_of_getElem? h1)
  have fin : ∀ r : TTubeNode, g25 n l u = some r → g8 n l u = some (r, 0) := fun r hr => by
    rcases At_cases n hn l h hc u x0 x1 h0 h1 with ⟨-, -, r', e1, e2⟩ | ⟨k, -⟩
    · rw [hr] at e1; cases e1; exact e2
    · omega
  obtain ⟨i, hi, k1, k2, b, hb, hbt⟩ := search_eq n hn l h u (by have := b0.1; have := b1.2.1; omega)
  cases b with
  | true =>
    obtain ⟨x, hx, hxt⟩ := hbt.1 rfl
    refine ⟨x, fin x ?_, h.nodes x (List.mem_of_getElem? hx), hxt, .inl ⟨i, hx⟩⟩
    unfold g25
    rw [hb, Option.bind_some]
    simp only [cond_true]
    rw [getI_at hx]; rfl
  | false =>
    have hil : i < l.length := by
      rcases Nat.lt_or_ge i l.length with h' | h'
      · exact h'
      · have := k1 (l.length - 1) x1 (by omega) h1; omega
    have hi0 : 0 < i := by
      rcases Nat.eq_zero_or_pos i with rfl | h'
      · have := k2 0 x0 (Nat.le_refl _) h0
        have := hbt.2 ⟨x0, h0, by omega⟩
        cases this
      · exact h'
    have ha : l[i - 1]? = some l[i - 1] := List.getElem?_eq_getElem (by omega)
    have hb' : l[i]? = some l[i] := List.getElem?_eq_getElem hil
    have na := h.nodes _ (List.mem_of_getElem? ha)
    have nb := h.nodes _ (List.mem_of_getElem? hb')
    have ta := k1 (i - 1) _ (by omega) ha
    have tb : u < l[i].Node_Time := by
      have := k2 i _ (Nat.le_refl _) hb'
      rcases Int.lt_or_eq_of_le this with k | k
      · exact k
      · have := hbt.2 ⟨_, hb', k.symm⟩; cases this
    have hw : IntKind.wrap .i64 ((i : Int) - 1) = ((i - 1 : Nat) : Int) := by have := h.len; rw [wrap64 (by omega) (by omega)]; omega
    obtain ⟨a1, a2, a3, a4, a5, a6, a7, a8, a9⟩ := na
    obtain ⟨c1, c2, c3, c4, c5, c6, c7, c8, c9⟩ := nb
    obtain ⟨q1, e1, hq, qx, qy⟩ := toward_full n (⟨l[i - 1].Node_At_X, l[i - 1].Node_At_Y⟩ : TP) (⟨l[i].Node_At_X, l[i].Node_At_Y⟩ : TP) a3 c3 (u - l[i - 1].Node_Time) (l[i].Node_Time - l[i - 1].Node_Time) (by omega) (by omega)
    have pb := prod_bound (D := l[i].Node_Height - l[i - 1].Node_Height) (c := u - l[i - 1].Node_Time) (M := 2000000) (by omega) (by omega) (by decide)
    have e2 := down_exact n ((l[i].Node_Height - l[i - 1].Node_Height) * (u - l[i - 1].Node_Time)) (l[i].Node_Time - l[i - 1].Node_Time) pb (by omega)
    obtain ⟨qh, eh, v1, v2⟩ := down_mid n (l[i].Node_Height - l[i - 1].Node_Height) (u - l[i - 1].Node_Time) (l[i].Node_Time - l[i - 1].Node_Time) (by omega) (by omega) (by omega)
    rw [wrap64 (by omega) (by omega), e2] at eh
    simp only [Option.some.injEq, Prod.mk.injEq, and_true] at eh
    obtain ⟨q3, e3, y1, y2⟩ := up_mid n (l[i].Radius - l[i - 1].Radius) (u - l[i - 1].Node_Time) (l[i].Node_Time - l[i - 1].Node_Time) (by omega) (by omega) (by omega)
    obtain ⟨q4, e4, z1, z2⟩ := up_mid n (l[i].Band - l[i - 1].Band) (u - l[i - 1].Node_Time) (l[i].Node_Time - l[i - 1].Node_Time) (by omega) (by omega) (by omega)
    have hH : 0 ≤ l[i - 1].Node_Height + qh ∧ l[i - 1].Node_Height + qh ≤ 60000 := by
      rcases Int.lt_or_le (l[i].Node_Height - l[i - 1].Node_Height) 0 with k | k
      · have := v2 k; omega
      · have := v1 k; omega
    have hR : 0 ≤ l[i - 1].Radius + q3 ∧ l[i - 1].Radius + q3 ≤ 1000000 := by
      rcases Int.lt_or_le (l[i].Radius - l[i - 1].Radius) 0 with k | k
      · have := y2 k; omega
      · have := y1 k; omega
    have hB : 0 ≤ l[i - 1].Band + q4 ∧ l[i - 1].Band + q4 ≤ 60000 := by
      rcases Int.lt_or_le (l[i].Band - l[i - 1].Band) 0 with k | k
      · have := z2 k; omega
      · have := z1 k; omega
    refine ⟨(⟨u, q1.X, q1.Y, l[i - 1].Node_Height + qh, l[i - 1].Radius + q3, l[i - 1].Band + q4⟩ : TTubeNode), fin _ ?_, ⟨by show 0 ≤ u; omega, by show u ≤ 200000; omega, hq, hH.1, hH.2, hR.1, hR.2, hB.1, hB.2⟩, rfl, .inr ⟨i - 1, l[i - 1], l[i], ha, by rw [show i - 1 + 1 = i by omega]; exact hb', ta, tb, by show l[i - 1].Node_Height + qh = _; rw [eh], qx, qy⟩⟩
    unfold g25
    rw [hb, Option.bind_some]
    simp only [cond_false]
    rw [hw, getI_at ha, getI_at hb']
    simp only [Option.bind_some]
    rw [wrap64 (z := u - l[i - 1].Node_Time) (by omega) (by omega), wrap64 (z := l[i].Node_Time - l[i - 1].Node_Time) (by omega) (by omega), e1, Option.bind_some, wrap64 (z := l[i].Node_Height - l[i - 1].Node_Height) (by omega) (by omega), wrap64 (z := (l[i].Node_Height - l[i - 1].Node_Height) * (u - l[i - 1].Node_Time)) (by omega) (by omega), e2, Option.bind_some, wrap64 (z := l[i].Radius - l[i - 1].Radius) (by omega) (by omega), e3, Option.bind_some, wrap64 (z := l[i].Band - l[i - 1].Band) (by omega) (by omega), e4, Option.bind_some, eh, wrap64 (z := l[i - 1].Node_Height + qh) (by omega) (by omega), wrap64 (z := l[i - 1].Radius + q3) (by omega) (by omega), wrap64 (z := l[i - 1].Band + q4) (by omega) (by omega)]
/- a value between two, and one between the first and it -/
theorem two_floor {D n N d : Int} (hn : 0 ≤ n ∧ n ≤ N) (hN : 0 < N) (hd : 0 < d) : (D * n) / d - 1 ≤ ((D * N) / d * n) / N ∧ ((D * N) / d * n) / N ≤ (D * n) / d := by
  obtain ⟨p, hp⟩ : ∃ p, (D * N) / d = p := ⟨_, rfl⟩
  obtain ⟨q, hq⟩ : ∃ q, (D * n) / d = q := ⟨_, rfl⟩
  rw [hp, hq]
  have p1 : p * d ≤ D * N := by rw [← hp]; exact Int.ediv_mul_le _ (by omega)
  have p2 : D * N < (p + 1) * d := by rw [← hp]; exact Int.lt_ediv_add_one_mul_self _ hd
  have q1 : q * d ≤ D * n := by rw [← hq]; exact Int.ediv_mul_le _ (by omega)
  have q2 : D * n < (q + 1) * d := by rw [← hq]; exact Int.lt_ediv_add_one_mul_self _ hd
  constructor
  · refine Int.le_ediv_of_mul_le hN ?_
    have h1 : (p * d) * n ≥ (D * N - d) * n := Int.mul_le_mul_of_nonneg_right (by rw [Int.add_mul, Int.one_mul] at p2; omega) hn.1
    have h2 : (q * d) * N ≤ (D * n) * N := Int.mul_le_mul_of_nonneg_right q1 (by omega)
    have h3 : d * n ≤ d * N := Int.mul_le_mul_of_nonneg_left hn.2 (by omega)
    have e1 : (D * N - d) * n = (D * n) * N - d * n := by grind
    have e2 : (p * d) * n = d * (p * n) := by grind
    have e3 : (q * d) * N - d * N = d * ((q - 1) * N) := by grind
    have h4 : d * ((q - 1) * N) ≤ d * (p * n) := by omega
    exact Int.le_of_mul_le_mul_left h4 hd
  · rw [← hq]
    refine Int.le_ediv_of_mul_le hd ?_
    obtain ⟨s, hs⟩ : ∃ s, p * n / N = s := ⟨_, rfl⟩
    rw [hs]
    have s1 : s * N ≤ p * n := by rw [← hs]; exact Int.ediv_mul_le _ (by omega)
    have h1 : (s * N) * d ≤ (p * n) * d := Int.mul_le_mul_of_nonneg_right s1 (by omega)
    have h2 : (p * d) * n ≤ (D * N) * n := Int.mul_le_mul_of_nonneg_right p1 hn.1
    have e1 : (p * n) * d = (p * d) * n := by grind
    have e2 : (s * N) * d = N * (s * d) := by grind
    have e3 : (D * N) * n = N * (D * n) := by grind
    have h3 : N * (s * d) ≤ N * (D * n) := by omega
    exact Int.le_of_mul_le_mul_left h3 hN
end Go.Proofs.YtbbfpbngnkjkdaaDoor
/- A tube and one that is the same up to a time and goes on from there: they agree before, up to rounding. -/
set_option linter.unusedVariables false
set_option linter.unusedSimpArgs false
set_option maxHeartbeats 4000000
namespace Go.Proofs.YtbbfpbngnkjkdaaDoor

structure AtF (l : List TTubeNode) (u : Int) (r : TTubeNode) : Prop where
  nb : NodeB r
  tm : r.Node_Time = u
  cs : (∃ i : Nat, l[i]? = some r) ∨ ∃ (i : Nat) (a b : TTubeNode), l[i]? = some a ∧ l[i + 1]? = some b ∧ a.Node_Time < u ∧ u < b.Node_Time ∧ r.Node_Height = a.Node_Height + ((b.Node_Height - a.Node_Height) * (u - a.Node_Time)) / (b.Node_Time - a.Node_Time) ∧ r.Node_At_X = a.Node_At_X + ((b.Node_At_X - a.Node_At_X) * (u - a.Node_Time)) / (b.Node_Time - a.Node_Time) ∧ r.Node_At_Y = a.Node_At_Y + ((b.Node_At_Y - a.Node_At_Y) * (u - a.Node_Time)) / (b.Node_Time - a.Node_Time)
theorem same_time {l : List TTubeNode} (h : Srt l) {x y : TTubeNode} (hx : x ∈ l) (hy : y ∈ l) (e : x.Node_Time = y.Node_Time) : x = y := by
  obtain ⟨i, hi⟩ := List.getElem?_of_mem hx
  obtain ⟨j, hj⟩ := List.getElem?_of_mem hy
  rcases Nat.lt_trichotomy i j with q | q | q
  · have := h.lt q hi hj; omega
  · subst q; rw [hi] at hj; exact Option.some.inj hj
  · have := h.lt q hj hi; omega
def near1 (r s : TTubeNode) : Prop := (-1 ≤ r.Node_At_X - s.Node_At_X ∧ r.Node_At_X - s.Node_At_X ≤ 1) ∧ (-1 ≤ r.Node_At_Y - s.Node_At_Y ∧ r.Node_At_Y - s.Node_At_Y ≤ 1) ∧ (-1 ≤ r.Node_Height - s.Node_Height ∧ r.Node_Height - s.Node_Height ≤ 1)
theorem near1.self (r : TTubeNode) : near1 r r := by unfold near1; omega
theorem near1.of_eq {r s : TTubeNode} (h1 : r.Node_Height = s.Node_Height) (h2 : r.Node_At_X = s.Node_At_X) (h3 : r.Node_At_Y = s.Node_At_Y) : near1 r s := by unfold near1; omega
theorem agree {l W m : List TTubeNode} {t u : Int} {now r s : TTubeNode} (hl : Srt l) (hm : Srt m) (em : m = bef l t ++ now :: W) (hW : ∀ x ∈ W, t < x.Node_Time) (hnow : AtF l t now) (hu : u ≤ t) (hr : AtF l u r) (hs : AtF m u s) : near1 r s ∧ (u = t → r = now → s = now) := by
  have mnow : now ∈ m := by rw [em]; simp
  have mbef : ∀ x ∈ l, x.Node_Time < t → x ∈ m := fun x h1 h2 => by
    rw [em]
    exact List.mem_append_left _ (List.mem_filter.2 ⟨h1, decide_eq_true h2⟩)
  have mlow : ∀ x ∈ m, x.Node_Time < t → x ∈ l := fun x h1 h2 => by
    rw [em] at h1
    rcases List.mem_append.1 h1 with q | q
    · exact (List.mem_filter.1 q).1
    · rcases List.mem_cons.1 q with rfl | q
      · have := hnow.tm; omega
      · have := hW x q; omega
  have tnow := hnow.tm
  obtain ⟨nr, tr, cr⟩ := hr
  obtain ⟨ns, ts, cs⟩ := hs
  by_cases hut : u = t
  · -- at the time itself
    subst hut
    have hs2 : s = now := by
      rcases cs with ⟨j, hj⟩ | ⟨j, a, b, ha, hb, h1, h2, -⟩
      · exact same_time hm (List.mem_of_getElem? hj) mnow (by omega)
      · rcases hm.adj ha hb mnow with q | q <;> omega
    have hr2 : near1 r now := by
      obtain ⟨-, -, cn⟩ := hnow
      rcases cr with ⟨i, hi⟩ | ⟨i, a, b, ha, hb, h1, h2, e1, e2, e3⟩
      · rcases cn with ⟨j, hj⟩ | ⟨j, a', b', ha', hb', k1, k2, -⟩
        · rw [same_time hl (List.mem_of_getElem? hi) (List.mem_of_getElem? hj) (by omega)]
          exact near1.self _
        · rcases hl.adj ha' hb' (List.mem_of_getElem? hi) with q | q <;> omega
      · rcases cn with ⟨j, hj⟩ | ⟨j, a', b', ha', hb', k1, k2, f1, f2, f3⟩
        · rcases hl.adj ha hb (List.mem_of_getElem? hj) with q | q <;> omega
        · have ea : a = a' := same_time hl (List.mem_of_getElem? ha) (List.mem_of_getElem? ha') (by
            rcases hl.adj ha hb (List.mem_of_getElem? ha') with q | q <;> rcases hl.adj ha' hb' (List.mem_of_getElem? ha) with q' | q' <;> omega)
          have eb : b = b' := same_time hl (List.mem_of_getElem? hb) (List.mem_of_getElem? hb') (by
            rcases hl.adj ha hb (List.mem_of_getElem? hb') with q | q <;> rcases hl.adj ha' hb' (List.mem_of_getElem? hb) with q' | q' <;> omega)
          subst ea
          subst eb
          exact near1.of_eq (by omega) (by omega) (by omega)
    exact ⟨by rw [hs2]; exact hr2, fun _ _ => hs2⟩
  refine ⟨?_, fun e => absurd e hut⟩
  have hult : u < t := by omega
  rcases cr with ⟨i, hi⟩ | ⟨i, a, b, ha, hb, h1, h2, e1, e2, e3⟩
  · -- a node
    have rm := mbef r (List.mem_of_getElem? hi) (by omega)
    rcases cs with ⟨j, hj⟩ | ⟨j, a', b', ha', hb', k1, k2, -⟩
    · rw [same_time hm rm (List.mem_of_getElem? hj) (by omega)]
      exact near1.self _
    · rcases hm.adj ha' hb' rm with q | q <;> omega
  · have am := mbef a (List.mem_of_getElem? ha) (by omega)
    rcases cs with ⟨j, hj⟩ | ⟨j, a', b', ha', hb', k1, k2, f1, f2, f3⟩
    · have := mlow s (List.mem_of_getElem? hj) (by omega)
      rcases hl.adj ha hb this with q | q <;> omega
    · have a'l := mlow a' (List.mem_of_getElem? ha') (by omega)
      have ea : a = a' := same_time hl (List.mem_of_getElem? ha) a'l (by
        rcases hl.adj ha hb a'l with q | q <;> rcases hm.adj ha' hb' am with q' | q' <;> omega)
      subst ea
      have b't : b'.Node_Time ≤ t := by
        rcases hm.adj ha' hb' mnow with q | q <;> omega
      by_cases hbt : b.Node_Time < t
      · have bm := mbef b (List.mem_of_getElem? hb) hbt
        have b'b : b'.Node_Time ≤ b.Node_Time := by
          rcases hm.adj ha' hb' bm with q | q <;> omega
        have b'l := mlow b' (List.mem_of_getElem? hb') (by omega)
        have eb : b = b' := same_time hl (List.mem_of_getElem? hb) b'l (by
          rcases hl.adj ha hb b'l with q | q <;> omega)
        subst eb
        exact near1.of_eq (by omega) (by omega) (by omega)
      · have b't2 : b'.Node_Time = t := by
          refine Int.le_antisymm b't (Decidable.byContradiction fun q => ?_)
          have b'l := mlow b' (List.mem_of_getElem? hb') (by omega)
          rcases hl.adj ha hb b'l with q | q <;> omega
        have eb' : b' = now := same_time hm (List.mem_of_getElem? hb') mnow (by omega)
        subst eb'
        obtain ⟨-, -, cn⟩ := hnow
        rcases cn with ⟨j2, hj2⟩ | ⟨j2, a2, b2, ha2, hb2, g1, g2, d1, d2, d3⟩
        · have : b = b' := same_time hl (List.mem_of_getElem? hb) (List.mem_of_getElem? hj2) (by
            rcases hl.adj ha hb (List.mem_of_getElem? hj2) with q | q <;> omega)
          subst this
          exact near1.of_eq (by omega) (by omega) (by omega)
        · have ea : a = a2 := same_time hl (List.mem_of_getElem? ha) (List.mem_of_getElem? ha2) (by
            rcases hl.adj ha hb (List.mem_of_getElem? ha2) with q | q <;> rcases hl.adj ha2 hb2 (List.mem_of_getElem? ha) with q' | q' <;> omega)
          have eb : b = b2 := same_time hl (List.mem_of_getElem? hb) (List.mem_of_getElem? hb2) (by
            rcases hl.adj ha hb (List.mem_of_getElem? hb2) with q | q <;> rcases hl.adj ha2 hb2 (List.mem_of_getElem? hb) with q' | q' <;> omega)
          subst ea
          subst eb
          have q1 := two_floor (D := b.Node_Height - a.Node_Height) (n := u - a.Node_Time) (N := t - a.Node_Time) (d := b.Node_Time - a.Node_Time) (by omega) (by omega) (by omega)
          have q2 := two_floor (D := b.Node_At_X - a.Node_At_X) (n := u - a.Node_Time) (N := t - a.Node_Time) (d := b.Node_Time - a.Node_Time) (by omega) (by omega) (by omega)
          have q3 := two_floor (D := b.Node_At_Y - a.Node_At_Y) (n := u - a.Node_Time) (N := t - a.Node_Time) (d := b.Node_Time - a.Node_Time) (by omega) (by omega) (by omega)
          rw [b't2, show b'.Node_Height - a.Node_Height = (b.Node_Height - a.Node_Height) * (t - a.Node_Time) / (b.Node_Time - a.Node_Time) by omega] at f1
          rw [b't2, show b'.Node_At_X - a.Node_At_X = (b.Node_At_X - a.Node_At_X) * (t - a.Node_Time) / (b.Node_Time - a.Node_Time) by omega] at f2
          rw [b't2, show b'.Node_At_Y - a.Node_At_Y = (b.Node_At_Y - a.Node_At_Y) * (t - a.Node_Time) / (b.Node_Time - a.Node_Time) by omega] at f3
          unfold near1
          rw [e1, e2, e3, f1, f2, f3]
          clear e1 e2 e3 f1 f2 f3 d1 d2 d3
          generalize (b.Node_Height - a.Node_Height) * (u - a.Node_Time) / (b.Node_Time - a.Node_Time) = H1 at *
          generalize (b.Node_Height - a.Node_Height) * (t - a.Node_Time) / (b.Node_Time - a.Node_Time) * (u - a.Node_Time) / (t - a.Node_Time) = H2 at *
          generalize (b.Node_At_X - a.Node_At_X) * (u - a.Node_Time) / (b.Node_Time - a.Node_Time) = X1 at *
          generalize (b.Node_At_X - a.Node_At_X) * (t - a.Node_Time) / (b.Node_Time - a.Node_Time) * (u - a.Node_Time) / (t - a.Node_Time) = X2 at *
          generalize (b.Node_At_Y - a.Node_At_Y) * (u - a.Node_Time) / (b.Node_Time - a.Node_Time) = Y1 at *
          generalize (b.Node_At_Y - a.Node_At_Y) * (t - a.Node_Time) / (b.Node_Time - a.Node_Time) * (u - a.Node_Time) / (t - a.Node_Time) = Y2 at *
          omega
end Go.Proofs.YtbbfpbngnkjkdaaDoor
/- EffectPaces: the same points, never faster than cleared. -/
set_option linter.unusedVariables false
set_option linter.unusedSimpArgs false
namespace Go.Proofs.YtbbfpbngnkjkdaaDoor

def posN (x : TTubeNode) : TP := ⟨x.Node_At_X, x.Node_At_Y⟩
def kq (x : TTubeNode) : TP × Int × Int × Int := (posN x, x.Node_Height, x.Radius, x.Band)
def paced (n : Nat) (v : Int) (p x : TTubeNode) : Prop := p.Node_Time < x.Node_Time ∧ x.Node_Time ≤ 200000 ∧ POk (posN p) ∧ POk (posN x) ∧ ∀ f c, g47 n (posN p) (posN x) = some (f, c) → f ≤ v * (x.Node_Time - p.Node_Time)
def chainP (n : Nat) (v : Int) : TTubeNode → List TTubeNode → Prop
  | _, [] => True
  | p, x :: r => paced n v p x ∧ chainP n v x r
def lastOf : TTubeNode → List TTubeNode → TTubeNode
  | p, [] => p
  | _, x :: r => lastOf x r
theorem chain_snoc {n : Nat} {v : Int} : ∀ (D : List TTubeNode) (p x : TTubeNode), chainP n v p D → paced n v (lastOf p D) x → chainP n v p (D ++ [x])
  | [], p, x, _, h => ⟨h, trivial⟩
  | y :: D, p, x, h, h2 => ⟨h.1, chain_snoc D y x h.2 h2⟩
theorem lastOf_snoc : ∀ (D : List TTubeNode) (p x : TTubeNode), lastOf p (D ++ [x]) = x
  | [], p, x => rfl
  | y :: D, p, x => lastOf_snoc D y x
theorem slow_loop (n : Nat) (hn : 64 < n) (T : Ttask) (N : Nat) (hN : N ≤ 64) (now : TTubeNode) (hv : 1 ≤ T.Clearance_Value ∧ T.Clearance_Value ≤ 400) : ∀ (R D : List TTubeNode) (m : Nat), (∀ x ∈ R, NodeB x) → chainP n T.Clearance_Value now D → POk (posN (lastOf now D)) → 0 ≤ (lastOf now D).Node_Time → (lastOf now D).Node_Time ≤ 200000 → D.length + R.length = N → R.length < m →
    (iterO (fun y : Int × List TTubeNode × Int × Int × Int × Int × Int × Int => S31_0 n (0) (N : Int) T.Clearance_Call T.Clearance_Kind T.Clearance_Value T.Clearance_Fix T.before T.later T.now_Node_Time T.now_Node_At_X T.now_Node_At_Y T.now_Node_Height T.now_Radius T.now_Band T.kind_Name T.kind_Wake T.kind_Ceiling T.kind_Climb T.kind_Descent T.kind_Slow T.kind_Fast T.fix_X T.fix_Y T.whole y.1 y.2.1 y.2.2.1 y.2.2.2.1 y.2.2.2.2.1 y.2.2.2.2.2.1 y.2.2.2.2.2.2.1 y.2.2.2.2.2.2.2) m
      ((D.length : Int), D ++ R, (lastOf now D).Node_Time, (lastOf now D).Node_At_X, (lastOf now D).Node_At_Y, (lastOf now D).Node_Height, (lastOf now D).Radius, (lastOf now D).Band) = some ([], 12)) ∨
    ∃ R' : List TTubeNode, R'.map kq = R.map kq ∧ chainP n T.Clearance_Value now (D ++ R') ∧
    (iterO (fun y : Int × List TTubeNode × Int × Int × Int × Int × Int × Int => S31_0 n (0) (N : Int) T.Clearance_Call T.Clearance_Kind T.Clearance_Value T.Clearance_Fix T.before T.later T.now_Node_Time T.now_Node_At_X T.now_Node_At_Y T.now_Node_Height T.now_Radius T.now_Band T.kind_Name T.kind_Wake T.kind_Ceiling T.kind_Climb T.kind_Descent T.kind_Slow T.kind_Fast T.fix_X T.fix_Y T.whole y.1 y.2.1 y.2.2.1 y.2.2.2.1 y.2.2.2.2.1 y.2.2.2.2.2.1 y.2.2.2.2.2.2.1 y.2.2.2.2.2.2.2) m
      ((D.length : Int), D ++ R, (lastOf now D).Node_Time, (lastOf now D).Node_At_X, (lastOf now D).Node_At_Y, (lastOf now D).Node_Height, (lastOf now D).Radius, (lastOf now D).Band) = some (D ++ R', 0))
  | [], D, m, hR, hD, hp, ht0, ht1, hl, hm => by
    obtain ⟨q, rfl⟩ : ∃ q, m = q + 1 := ⟨m - 1, by omega⟩
    right
    refine ⟨[], rfl, by simpa using hD, ?_⟩
    simp only [iterO]
    unfold S31_0
    rw [decide_eq_false (show ¬ (D.length : Int) < (N : Int) by simp at hl; omega), cond_false]
  | x :: R, D, m, hR, hD, hp, ht0, ht1, hl, hm => by
    obtain ⟨q, rfl⟩ : ∃ q, m = q + 1 := ⟨m - 1, by omega⟩
    simp only [List.length_cons] at hl hm
    have hx := hR x (List.mem_cons_self ..)
    generalize hlast : lastOf now D = p at *
    have hpx : POk (⟨p.Node_At_X, p.Node_At_Y⟩ : TP) := hp
    obtain ⟨f, c, ed, f0, f1, f2, f3, -⟩ := dist_val n hn (⟨p.Node_At_X, p.Node_At_Y⟩ : TP) (⟨x.Node_At_X, x.Node_At_Y⟩ : TP) hpx hx.2.2.1
    obtain ⟨w, hw, w0, w1, w2⟩ := up_val n c T.Clearance_Value (by omega) (by omega) (by omega)
    have gx : (D ++ x :: R)[D.length]? = some x := by simp
    generalize hM : (if w > 1 then w else 1) = M
    have M0 : 1 ≤ M := by rw [← hM]; split <;> omega
    have M1 : M ≤ 3000010 := by rw [← hM]; split <;> omega
    have M2 : w ≤ M := by rw [← hM]; split <;> omega
    have hset : (D ++ x :: R).set D.length (⟨p.Node_Time + M, x.Node_At_X, x.Node_At_Y, x.Node_Height, x.Radius, x.Band⟩ : TTubeNode) = (D ++ [(⟨p.Node_Time + M, x.Node_At_X, x.Node_At_Y, x.Node_Height, x.Radius, x.Band⟩ : TTubeNode)]) ++ R := by
      rw [List.set_append_right _ _ (Nat.le_refl _)]; simp
    have gs : ((D ++ [(⟨p.Node_Time + M, x.Node_At_X, x.Node_At_Y, x.Node_Height, x.Radius, x.Band⟩ : TTubeNode)]) ++ R)[D.length]? = some (⟨p.Node_Time + M, x.Node_At_X, x.Node_At_Y, x.Node_Height, x.Radius, x.Band⟩ : TTubeNode) := by simp
    generalize hy : (⟨p.Node_Time + M, x.Node_At_X, x.Node_At_Y, x.Node_Height, x.Radius, x.Band⟩ : TTubeNode) = y at *
    have yT : y.Node_Time = p.Node_Time + M := by rw [← hy]
    have yP : posN y = posN x := by rw [← hy]; rfl
    have yQ : kq y = kq x := by rw [← hy]; rfl
    simp only [iterO]
    unfold S31_0
    rw [decide_eq_true (show (D.length : Int) < (N : Int) by omega), cond_true, getI_at gx, Option.bind_some, ed, Option.bind_some, hw, Option.bind_some, Option.bind_some, hM, wrap64 (z := p.Node_Time + M) (by omega) (by omega), Int.toNat_natCast, hy, hset, getI_at gs, Option.bind_some, Option.bind_some, wS (by omega)]
    by_cases hbig : y.Node_Time > 200000
    · rw [decide_eq_true hbig, cond_true]; left; rfl
    rw [decide_eq_false hbig, cond_false]
    have hpc : paced n T.Clearance_Value p y := by
      refine ⟨by omega, by omega, hp, by rw [yP]; exact hx.2.2.1, fun f' c' e' => ?_⟩
      rw [yP] at e'
      have : g47 n (posN p) (posN x) = some (f, c) := ed
      rw [this] at e'
      cases e'
      have h1 : w * T.Clearance_Value ≤ M * T.Clearance_Value := Int.mul_le_mul_of_nonneg_right M2 (by omega)
      rw [yT, show p.Node_Time + M - p.Node_Time = M by omega, Int.mul_comm]
      omega
    have hD' : chainP n T.Clearance_Value now (D ++ [y]) := chain_snoc D now y hD (by rw [hlast]; exact hpc)
    have hl' := lastOf_snoc D now y
    have ih := slow_loop n hn T N hN now hv R (D ++ [y]) q (fun z hz => hR z (List.mem_cons_of_mem _ hz)) hD' (by rw [hl', yP]; exact hx.2.2.1) (by rw [hl']; omega) (by rw [hl']; omega) (by simp; omega) (by omega)
    rw [hl', show ((D ++ [y]).length : Int) = ((D.length + 1 : Nat) : Int) by simp] at ih
    rcases ih with ih | ⟨R', k1, k2, ih⟩
    · left; exact ih
    · right
      refine ⟨y :: R', by rw [List.map_cons, List.map_cons, k1, yQ], by simpa using k2, ?_⟩
      rw [show D ++ y :: R' = (D ++ [y]) ++ R' by simp]
      exact ih
end Go.Proofs.YtbbfpbngnkjkdaaDoor
/- What a clearance makes of the later nodes: of each kind they lie behind the time and make a valid tube. -/
set_option linter.unusedVariables false
set_option linter.unusedSimpArgs false
set_option maxHeartbeats 4000000
namespace Go.Proofs.YtbbfpbngnkjkdaaDoor

/- vectors -/
theorem near_tot (n : Nat) {a : Int} (h1 : -4000000000000000000 ≤ a) (h2 : a ≤ 4000000000000000000) : ∃ z, g51 n a 16384 = some z := by
  have pos : ∀ b : Int, ∃ z, nearP b 16384 = some z := fun b => by
    unfold nearP divO
    rw [if_neg (by decide)]
    exact ⟨_, rfl⟩
  unfold g51
  by_cases h0 : a < 0
  · rw [decide_eq_true h0, cond_true, wrap64 (z := 0 - a) (by omega) (by omega), decide_eq_false (show ¬ 0 - a < 0 by omega), cond_false]
    obtain ⟨z, hz⟩ := pos (0 - a)
    rw [hz]
    exact ⟨_, rfl⟩
  · rw [decide_eq_false h0, cond_false]
    exact pos a
theorem vector_tot (n : Nat) (h len : Int) : ∃ r, g44 n h len = some r := by
  unfold g44
  by_cases c1 : len < 0
  · rw [decide_eq_true c1]; exact ⟨_, rfl⟩
  rw [decide_eq_false c1, cond_false]
  by_cases c2 : len > 2000000
  · rw [decide_eq_true c2]; exact ⟨_, rfl⟩
  rw [decide_eq_false c2, cond_false]
  have bd : ∀ s : Int, -268435456 ≤ s → s ≤ 268435456 → ∃ z, g51 n (IntKind.wrap .i64 (len * s)) 16384 = some z := fun s s1 s2 => by
    have p1 : len * s ≤ len * 268435456 := Int.mul_le_mul_of_nonneg_left s2 (by omega)
    have p2 : len * -268435456 ≤ len * s := Int.mul_le_mul_of_nonneg_left s1 (by omega)
    rw [wrap64 (z := len * s) (by omega) (by omega)]
    exact near_tot n (by omega) (by omega)
  obtain ⟨s, hs, s1, s2⟩ := sine_val n h
  obtain ⟨x, hx⟩ := bd s s1 s2
  have hcos : ∃ c, g53 n h = some c ∧ -268435456 ≤ c ∧ c ≤ 268435456 := by
    unfold g53
    obtain ⟨m, hm, -⟩ := norm_val n h
    rw [hm, Option.bind_some]
    obtain ⟨z, hz, z1, z2⟩ := sine_val n (IntKind.wrap .i64 ((m : Int) + 1024))
    rw [hz]
    exact ⟨z, rfl, z1, z2⟩
  obtain ⟨c, hc, c3, c4⟩ := hcos
  obtain ⟨y, hy⟩ := bd c c3 c4
  rw [hs, Option.bind_some, hx, Option.bind_some, hc, Option.bind_some, hy, Option.bind_some]
  exact ⟨_, rfl⟩
/- later nodes -/
structure LatOk (t : Int) (W : List TTubeNode) : Prop where
  srt : Srt W
  nodes : ∀ x ∈ W, NodeB x
  after : ∀ x ∈ W, t < x.Node_Time
theorem tube_of {l W : List TTubeNode} {now : TTubeNode} {t : Int} (hl : TubeOk l) (hnow : NodeB now) (ht : now.Node_Time = t) (hW : LatOk t W) (hlen : (bef l t ++ now :: W).length ≤ 64) : TubeOk (bef l t ++ now :: W) := by
  have srt : Srt (bef l t ++ now :: W) := by
    refine List.pairwise_append.2 ⟨hl.srt.filter _, List.pairwise_cons.2 ⟨fun x hx => by have := hW.after x hx; omega, hW.srt⟩, fun x hx y hy => ?_⟩
    have hx2 : x.Node_Time < t := by simpa using (List.mem_filter.1 hx).2
    rcases List.mem_cons.1 hy with rfl | hy
    · omega
    · have := hW.after y hy; omega
  refine ⟨by simp; omega, hlen, fun x hx => ?_, fun i x y hx hy => srt.lt (Nat.lt_succ_self i) hx hy⟩
  rcases List.mem_append.1 hx with q | q
  · exact hl.nodes x (List.mem_filter.1 q).1
  · rcases List.mem_cons.1 q with rfl | q
    · exact hnow
    · exact hW.nodes x q
theorem lat_ok {l : List TTubeNode} (hl : TubeOk l) (t : Int) : LatOk t (lat l t) := ⟨hl.srt.filter _, fun x hx => hl.nodes x (lat_mem.1 hx).1, fun x hx => by have := (lat_mem.1 hx).2; omega⟩
theorem speed_val (n : Nat) (hn : 64 < n) {l : List TTubeNode} (hl : TubeOk l) {now : TTubeNode} {t : Int} (hnow : NodeB now) (ht : now.Node_Time = t) (hne : lat l t ≠ []) : ∃ v : Int, 0 ≤ v ∧ v ≤ 3000000 ∧ ∀ T : Ttask, T.later = lat l t → T.now_Node_Time = now.Node_Time → T.now_Node_At_X = now.Node_At_X → T.now_Node_At_Y = now.Node_At_Y → g45 n T = some v := by
  have hlp : 0 < (lat l t).length := List.length_pos_iff.2 hne
  have hy : (lat l t)[0]? = some (lat l t)[0] := List.getElem?_eq_getElem hlp
  have gy : getI (lat l t) 0 = some (lat l t)[0] := getI_at (i := 0) hy
  obtain ⟨my, ty⟩ := lat_mem.1 (List.mem_of_getElem? hy)
  have by' := hl.nodes _ my
  generalize hY : (lat l t)[0] = y at *
  obtain ⟨f, cc, ed, f0, f1, f2, f3, -⟩ := dist_val n hn (⟨now.Node_At_X, now.Node_At_Y⟩ : TP) (⟨y.Node_At_X, y.Node_At_Y⟩ : TP) hnow.2.2.1 by'.2.2.1
  have hdt : 0 < y.Node_Time - now.Node_Time := by omega
  have h1 := by'.2.1
  have h2 := hnow.1
  have hv0 : 0 ≤ f / (y.Node_Time - now.Node_Time) := Int.ediv_nonneg f0 (by omega)
  have hv1 : f / (y.Node_Time - now.Node_Time) ≤ f := Int.ediv_le_self _ f0
  refine ⟨f / (y.Node_Time - now.Node_Time), hv0, by omega, fun T k1 k2 k3 k4 => ?_⟩
  unfold g45
  rw [k1, k2, k3, k4, gy, Option.bind_some, ed, Option.bind_some, Option.bind_some]
  have hd : divO f (IntKind.wrap .i64 (y.Node_Time - now.Node_Time)) = some (f / (y.Node_Time - now.Node_Time)) := by
    rw [wrap64 (by omega) (by omega)]
    simp only [divO, if_neg (show ¬ y.Node_Time - now.Node_Time = 0 by omega)]
    rw [Int.tdiv_eq_ediv_of_nonneg f0]
  show (divO f _).bind _ = _
  rw [hd, Option.bind_some, wrap64 (by omega) (by omega)]
/- heading: the same nodes elsewhere -/
def kh (x : TTubeNode) : Int × Int × Int × Int := (x.Node_Time, x.Node_Height, x.Radius, x.Band)
theorem heading_val (n : Nat) (hn : 300 < n) {l : List TTubeNode} (hl : TubeOk l) (c : TClearance) {now : TTubeNode} {t : Int} (hnow : NodeB now) (ht : now.Node_Time = t) (k : TKind) (fix : TP) (hne : lat l t ≠ []) :
    ∃ r : List TTubeNode × Int, g30 n (tsk l c t now k fix) = some r ∧ (r.2 ≠ 0 ∨ (r.2 = 0 ∧ r.1.map kh = (lat l t).map kh ∧ ∀ x ∈ r.1, POk ⟨x.Node_At_X, x.Node_At_Y⟩)) := by
  obtain ⟨v, -, -, hv⟩ := speed_val n (by omega) hl hnow ht hne
  have hll := lat_len l t
  have hlen := hl.len
  unfold g30
  have hlat : (tsk l c t now k fix).later = lat l t := rfl
  rw [hlat, room_of (by omega) (by omega), Option.bind_some]
  refine iterO_rule (S := fun y : Int × List TTubeNode => S30_0 n (0) ((lat l t).length : Int) (tsk l c t now k fix).Clearance_Call (tsk l c t now k fix).Clearance_Kind (tsk l c t now k fix).Clearance_Value (tsk l c t now k fix).Clearance_Fix (tsk l c t now k fix).before (tsk l c t now k fix).later (tsk l c t now k fix).now_Node_Time (tsk l c t now k fix).now_Node_At_X (tsk l c t now k fix).now_Node_At_Y (tsk l c t now k fix).now_Node_Height (tsk l c t now k fix).now_Radius (tsk l c t now k fix).now_Band (tsk l c t now k fix).kind_Name (tsk l c t now k fix).kind_Wake (tsk l c t now k fix).kind_Ceiling (tsk l c t now k fix).kind_Climb (tsk l c t now k fix).kind_Descent (tsk l c t now k fix).kind_Slow (tsk l c t now k fix).kind_Fast (tsk l c t now k fix).fix_X (tsk l c t now k fix).fix_Y (tsk l c t now k fix).whole y.1 y.2)
    (fun y => ∃ (D R : List TTubeNode), y = ((D.length : Int), D ++ R) ∧ (D ++ R).map kh = (lat l t).map kh ∧ ∀ x ∈ D, POk ⟨x.Node_At_X, x.Node_At_Y⟩) _ (fun y => (lat l t).length - y.1.toNat) ?_ n _ ⟨[], lat l t, rfl, rfl, fun x hx => by cases hx⟩ (by show (lat l t).length - (0 : Int).toNat < n; omega)
  rintro _ ⟨D, R, rfl, hmap, hpos⟩
  have hDR : D.length + R.length = (lat l t).length := by
    have := congrArg List.length hmap
    simpa using this
  show (∃ y, S30_0 n (0) ((lat l t).length : Int) (tsk l c t now k fix).Clearance_Call (tsk l c t now k fix).Clearance_Kind (tsk l c t now k fix).Clearance_Value (tsk l c t now k fix).Clearance_Fix (tsk l c t now k fix).before (tsk l c t now k fix).later (tsk l c t now k fix).now_Node_Time (tsk l c t now k fix).now_Node_At_X (tsk l c t now k fix).now_Node_At_Y (tsk l c t now k fix).now_Node_Height (tsk l c t now k fix).now_Radius (tsk l c t now k fix).now_Band (tsk l c t now k fix).kind_Name (tsk l c t now k fix).kind_Wake (tsk l c t now k fix).kind_Ceiling (tsk l c t now k fix).kind_Climb (tsk l c t now k fix).kind_Descent (tsk l c t now k fix).kind_Slow (tsk l c t now k fix).kind_Fast (tsk l c t now k fix).fix_X (tsk l c t now k fix).fix_Y (tsk l c t now k fix).whole (D.length : Int) (D ++ R) = some (.inl y) ∧ _) ∨ ∃ r, S30_0 n (0) ((lat l t).length : Int) (tsk l c t now k fix).Clearance_Call (tsk l c t now k fix).Clearance_Kind (tsk l c t now k fix).Clearance_Value (tsk l c t now k fix).Clearance_Fix (tsk l c t now k fix).before (tsk l c t now k fix).later (tsk l c t now k fix).now_Node_Time (tsk l c t now k fix).now_Node_At_X (tsk l c t now k fix).now_Node_At_Y (tsk l c t now k fix).now_Node_Height (tsk l c t now k fix).now_Radius (tsk l c t now k fix).now_Band (tsk l c t now k fix).kind_Name (tsk l c t now k fix).kind_Wake (tsk l c t now k fix).kind_Ceiling (tsk l c t now k fix).kind_Climb (tsk l c t now k fix).kind_Descent (tsk l c t now k fix).kind_Slow (tsk l c t now k fix).kind_Fast (tsk l c t now k fix).fix_X (tsk l c t now k fix).fix_Y (tsk l c t now k fix).whole (D.length : Int) (D ++ R) = some (.inr r) ∧ _
  unfold S30_0
  cases R with
  | nil =>
    right
    rw [List.length_nil] at hDR
    rw [decide_eq_false (show ¬ (D.length : Int) < _ by omega), cond_false, List.append_nil]
    rw [List.append_nil] at hmap
    exact ⟨_, rfl, .inr ⟨rfl, hmap, hpos⟩⟩
  | cons x R =>
    rw [List.length_cons] at hDR
    have gx : (D ++ x :: R)[D.length]? = some x := by simp
    rw [decide_eq_true (show (D.length : Int) < _ by omega), cond_true, hv _ rfl rfl rfl rfl, Option.bind_some, getI_at gx, Option.bind_some]
    obtain ⟨r, hr⟩ := vector_tot n (tsk l c t now k fix).Clearance_Value (IntKind.wrap .i64 (v * IntKind.wrap .i64 (x.Node_Time - (tsk l c t now k fix).now_Node_Time)))
    rw [hr, Option.bind_some]
    by_cases c1 : r.2 = 0
    rotate_left
    · rw [bne_iff_ne.2 c1, cond_true]; exact .inr ⟨_, rfl, .inl c1⟩
    rw [c1, show ((0 : Int) != 0) = false from rfl, cond_false]
    obtain ⟨q, hq⟩ : ∃ q, g46 n (⟨(tsk l c t now k fix).now_Node_At_X, (tsk l c t now k fix).now_Node_At_Y⟩ : TP) r.1 = some q := ⟨_, rfl⟩
    rw [hq, Option.bind_some, Option.bind_some, Int.toNat_natCast]
    generalize hy : (⟨x.Node_Time, q.X, q.Y, x.Node_Height, x.Radius, x.Band⟩ : TTubeNode) = y at *
    have hset : (D ++ x :: R).set D.length y = (D ++ [y]) ++ R := by
      rw [List.set_append_right _ _ (Nat.le_refl _)]; simp
    have gs : ((D ++ [y]) ++ R)[D.length]? = some y := by simp
    rw [hset, getI_at gs, Option.bind_some]
    have ky : kh y = kh x := by rw [← hy]; rfl
    have dec : (lat l t).length - ((D.length + 1 : Nat) : Int).toNat < (lat l t).length - (D.length : Int).toNat := by omega
    rcases pcheck n ⟨y.Node_At_X, y.Node_At_Y⟩ with ⟨e, hP⟩ | ⟨e, -⟩
    · rw [e, Option.bind_some, show ((0 : Int) != 0) = false from rfl, cond_false, wS (by omega)]
      refine .inl ⟨_, rfl, ⟨D ++ [y], R, by simp, ?_, fun z hz => ?_⟩, dec⟩
      · rw [← hmap]
        simp only [List.map_append, List.map_cons, List.map_nil, ky, List.append_assoc, List.cons_append, List.nil_append]
      · rcases List.mem_append.1 hz with q' | q'
        · exact hpos z q'
        · rw [List.mem_singleton.1 q']; exact hP
    · rw [e]
      exact .inr ⟨_, rfl, .inl (by decide)⟩
theorem heading_lat {l D : List TTubeNode} {t : Int} (hl : TubeOk l) (hk : D.map kh = (lat l t).map kh) (hp : ∀ x ∈ D, POk ⟨x.Node_At_X, x.Node_At_Y⟩) : LatOk t D := by
  have hL := lat_ok hl t
  have back : ∀ x ∈ D, ∃ y ∈ lat l t, kh y = kh x := fun x hx => by
    have : kh x ∈ (lat l t).map kh := by rw [← hk]; exact List.mem_map.2 ⟨x, hx, rfl⟩
    exact List.mem_map.1 this
  have ktime : ∀ L : List TTubeNode, L.map TTubeNode.Node_Time = (L.map kh).map Prod.fst := fun L => by rw [List.map_map]; rfl
  refine ⟨?_, fun x hx => ?_, fun x hx => ?_⟩
  · have h1 : (D.map TTubeNode.Node_Time).Pairwise (· < ·) := by
      rw [ktime, hk, ← ktime, List.pairwise_map]; exact hL.srt
    exact List.pairwise_map.1 h1
  · obtain ⟨y, hy, e⟩ := back x hx
    obtain ⟨c1, c2, c3, c4, c5, c6, c7, c8, c9⟩ := hL.nodes y hy
    have e1 : y.Node_Time = x.Node_Time := congrArg Prod.fst e
    have e2 : y.Node_Height = x.Node_Height := congrArg (fun p => p.2.1) e
    have e3 : y.Radius = x.Radius := congrArg (fun p => p.2.2.1) e
    have e4 : y.Band = x.Band := congrArg (fun p => p.2.2.2) e
    exact ⟨by omega, by omega, hp x hx, by omega, by omega, by omega, by omega, by omega, by omega⟩
  · obtain ⟨y, hy, e⟩ := back x hx
    have e1 : y.Node_Time = x.Node_Time := congrArg Prod.fst e
    have := hL.after y hy
    omega
end Go.Proofs.YtbbfpbngnkjkdaaDoor
/- What a clearance of any kind makes of the tube: it stays as it is, or the later nodes lie behind the time and the whole is a valid tube. -/
set_option linter.unusedVariables false
set_option linter.unusedSimpArgs false
set_option maxHeartbeats 4000000
namespace Go.Proofs.YtbbfpbngnkjkdaaDoor

theorem chain_lat {n : Nat} {v : Int} : ∀ (D : List TTubeNode) (p : TTubeNode), chainP n v p D → Srt D ∧ ∀ x ∈ D, p.Node_Time < x.Node_Time ∧ x.Node_Time ≤ 200000
  | [], p, _ => ⟨List.Pairwise.nil, fun x hx => by cases hx⟩
  | y :: D, p, h => by
    obtain ⟨h1, h2⟩ := h
    obtain ⟨s, a⟩ := chain_lat D y h2
    refine ⟨List.pairwise_cons.2 ⟨fun x hx => (a x hx).1, s⟩, fun x hx => ?_⟩
    rcases List.mem_cons.1 hx with rfl | q
    · exact ⟨h1.1, h1.2.1⟩
    · have := a x q
      have := h1.1
      omega
theorem slow_lat {n : Nat} {v : Int} {l D : List TTubeNode} {now : TTubeNode} {t : Int} (hl : TubeOk l) (hnow : NodeB now) (ht : now.Node_Time = t) (hk : D.map kq = (lat l t).map kq) (hc : chainP n v now D) : LatOk t D := by
  obtain ⟨s, a⟩ := chain_lat D now hc
  have hL := lat_ok hl t
  refine ⟨s, fun x hx => ?_, fun x hx => by have := (a x hx).1; omega⟩
  have : kq x ∈ (lat l t).map kq := by rw [← hk]; exact List.mem_map.2 ⟨x, hx, rfl⟩
  obtain ⟨y, hy, e⟩ := List.mem_map.1 this
  obtain ⟨c1, c2, c3, c4, c5, c6, c7, c8, c9⟩ := hL.nodes y hy
  have e1 : posN y = posN x := congrArg Prod.fst e
  have e2 : y.Node_Height = x.Node_Height := congrArg (fun p => p.2.1) e
  have e3 : y.Radius = x.Radius := congrArg (fun p => p.2.2.1) e
  have e4 : y.Band = x.Band := congrArg (fun p => p.2.2.2) e
  have a1 := a x hx
  have n1 := hnow.1
  have c3' : POk (posN x) := by rw [← e1]; exact c3
  exact ⟨by omega, by omega, c3', by omega, by omega, by omega, by omega, by omega, by omega⟩
def Fine (l : List TTubeNode) (t : Int) (now : TTubeNode) (r : List TTubeNode × Bool × Int) : Prop :=
  r.2.2 ≠ 0 ∨ (r.2.2 = 0 ∧ (r.2.1 = true ∨ (r.2.1 = false ∧ r.1.length ≤ 66 ∧ (∀ x ∈ r.1, t < x.Node_Time) ∧ ((bef l t ++ now :: r.1).length ≤ 64 → TubeOk (bef l t ++ now :: r.1)))))
theorem Fine.of_lat {l W : List TTubeNode} {t : Int} {now : TTubeNode} (hl : TubeOk l) (hnow : NodeB now) (ht : now.Node_Time = t) (hW : LatOk t W) (hlen : W.length ≤ 66) : Fine l t now (W, false, 0) :=
  .inr ⟨rfl, .inr ⟨rfl, hlen, hW.after, fun h => tube_of hl hnow ht hW h⟩⟩
theorem carried_val (n : Nat) (hn : 200200 < n) (l : List TTubeNode) (ok : TubeOk l) (ec : g7 n l = some 0) (c : TClearance) (t : Int) (now : TTubeNode) (k : TKind) (fix : TP) (hfix : POk fix) (hk : g18 n k = some 0) (e4 : g8 n l t = some (now, 0)) (hnow : NodeB now) (ht : now.Node_Time = t) :
    ∃ r, g21 n (tsk l c t now k fix) = some r ∧ Fine l t now r := by
  have hll := lat_len l t
  have hlen := ok.len
  have n0 := hnow.1
  have n1 := hnow.2.1
  unfold g21
  have kK : (tsk l c t now k fix).Clearance_Kind = c.Kind := rfl
  have kL : (tsk l c t now k fix).later = lat l t := rfl
  rw [kK, kL]
  by_cases k0 : c.Kind = 0
  · rw [show (c.Kind == 0) = true from beq_iff_eq.2 k0, cond_true]
    obtain ⟨⟨N, q⟩, e15, hcl⟩ := climb_cases n (by omega) k now.Node_Height c.Value
    by_cases hq : q = 0
    case neg =>
      have h42 : g29 n (tsk l c t now k fix) = some ([], q) := by
        unfold g29
        show (g40 n k now.Node_Height c.Value).bind _ = _
        rw [e15, Option.bind_some]
        simp only [bne_iff_ne.2 hq, cond_true]
      rw [h42, Option.bind_some]
      exact ⟨_, rfl, .inl hq⟩
    subst hq
    obtain ⟨M, hM, hML, h42⟩ := height_val n hn l ok ec c t now k fix ht (by omega) N (hcl rfl) e15 e4
    rw [h42, Option.bind_some]
    refine ⟨_, rfl, .inr ⟨rfl, .inr ⟨rfl, by show (M.map _).length ≤ 66; rw [List.length_map]; omega, fun x hx => ?_, fun h => m_ok ok hnow ht hM (hcl rfl) h⟩⟩⟩
    obtain ⟨y, hy, rfl⟩ := List.mem_map.1 hx
    rw [hN_time]
    exact hM.after y hy
  rw [show (c.Kind == 0) = false from beq_eq_false_iff_ne.2 k0, cond_false]
  by_cases hla : lat l t = []
  · rw [hla]
    exact ⟨_, rfl, .inr ⟨rfl, .inl rfl⟩⟩
  have hlp : (lat l t).length ≠ 0 := fun h => hla (List.eq_nil_of_length_eq_zero h)
  rw [show (((lat l t).length : Int) == 0) = false from beq_eq_false_iff_ne.2 (by omega), cond_false]
  by_cases k1 : c.Kind = 1
  · rw [show (c.Kind == 1) = true from beq_iff_eq.2 k1, cond_true]
    obtain ⟨r, hr, h⟩ := heading_val n (by omega) ok c hnow ht k fix hla
    rw [hr, Option.bind_some]
    refine ⟨_, rfl, ?_⟩
    rcases h with h | ⟨h1, h2, h3⟩
    · exact .inl h
    · rw [h1]
      refine Fine.of_lat ok hnow ht (heading_lat ok h2 h3) ?_
      have := congrArg List.length h2
      rw [List.length_map, List.length_map] at this
      omega
  rw [show (c.Kind == 1) = false from beq_eq_false_iff_ne.2 k1, cond_false]
  by_cases k2 : c.Kind = 2
  · rw [show (c.Kind == 2) = true from beq_iff_eq.2 k2, cond_true]
    obtain ⟨z2, hz2, hkb⟩ := craft_tot n (by omega) k
    rw [hk] at hz2
    cases hz2
    obtain ⟨-, -, -, -, k5, k6, -, -⟩ := hkb rfl
    unfold g31
    have kV : (tsk l c t now k fix).Clearance_Value = c.Value := rfl
    have kS : (tsk l c t now k fix).kind_Slow = k.Slow := rfl
    have kF : (tsk l c t now k fix).kind_Fast = k.Fast := rfl
    by_cases h1 : c.Value < k.Slow
    · rw [kV, kS, decide_eq_true h1, cond_true]; exact ⟨_, rfl, .inl (by decide)⟩
    by_cases h2 : c.Value > k.Fast
    · rw [kV, kS, kF, decide_eq_false h1, cond_false, decide_eq_true h2, cond_true]; exact ⟨_, rfl, .inl (by decide)⟩
    have hloop := slow_loop n (by omega) (tsk l c t now k fix) (lat l t).length (by omega) now ⟨by show 1 ≤ c.Value; omega, by show c.Value ≤ 400; omega⟩ (lat l t) [] n (fun x hx => ok.nodes x (lat_mem.1 hx).1) trivial hnow.2.2.1 n0 n1 (by simp) (by omega)
    rw [show decide ((tsk l c t now k fix).Clearance_Value < (tsk l c t now k fix).kind_Slow) = false from decide_eq_false h1, show decide ((tsk l c t now k fix).Clearance_Value > (tsk l c t now k fix).kind_Fast) = false from decide_eq_false h2, cond_false, cond_false, kL, room_of (by omega) (by omega), Option.bind_some]
    rcases hloop with hloop | ⟨R', m1, m2, hloop⟩
    · refine ⟨([], false, 12), ?_, .inl (by show (12 : Int) ≠ 0; decide)⟩
      exact (congrArg (fun o => Option.bind o fun x : List TTubeNode × Int => some (x.1, false, x.2)) hloop).trans rfl
    · refine ⟨(R', false, 0), ?_, Fine.of_lat ok hnow ht (slow_lat ok hnow ht m1 m2) ?_⟩
      · exact (congrArg (fun o => Option.bind o fun x : List TTubeNode × Int => some (x.1, false, x.2)) hloop).trans rfl
      · have := congrArg List.length m1
        rw [List.length_map, List.length_map] at this
        omega
  rw [show (c.Kind == 2) = false from beq_eq_false_iff_ne.2 k2, cond_false]
  by_cases k3 : c.Kind = 3
  · rw [show (c.Kind == 3) = true from beq_iff_eq.2 k3, cond_true]
    obtain ⟨v, v0, v1, hv⟩ := speed_val n (by omega) ok hnow ht hla
    unfold g32
    rw [hv _ rfl rfl rfl rfl, Option.bind_some]
    by_cases hv0 : v = 0
    · rw [show (v == 0) = true from beq_iff_eq.2 hv0, cond_true]; exact ⟨_, rfl, .inl (by show (10 : Int) ≠ 0; decide)⟩
    rw [show (v == 0) = false from beq_eq_false_iff_ne.2 hv0, cond_false]
    obtain ⟨f', c', ed', g0, g1, g2, g3, g4⟩ := dist_val n (by omega) (⟨now.Node_At_X, now.Node_At_Y⟩ : TP) fix hnow.2.2.1 hfix
    have ed2 : g47 n (⟨(tsk l c t now k fix).now_Node_At_X, (tsk l c t now k fix).now_Node_At_Y⟩ : TP) (⟨(tsk l c t now k fix).fix_X, (tsk l c t now k fix).fix_Y⟩ : TP) = some (f', c') := ed'
    rw [ed2, Option.bind_some]
    show ∃ r, ((bif (c' == 0) then some (([] : List TTubeNode), (0 : Int)) else (g38 n c' v).bind fun x => bif (decide ((IntKind.wrap .i64 (now.Node_Time + x.1)) > (200000))) then some ([], 12) else some (([(⟨(IntKind.wrap .i64 (now.Node_Time + x.1)), fix.X, fix.Y, now.Node_Height, now.Radius, now.Band⟩ : TTubeNode)] : List TTubeNode), 0)).bind fun x : List TTubeNode × Int => some (x.1, false, x.2)) = some r ∧ _
    by_cases hc0 : c' = 0
    · rw [show (c' == 0) = true from beq_iff_eq.2 hc0, cond_true]
      exact ⟨_, rfl, Fine.of_lat ok hnow ht ⟨List.Pairwise.nil, fun x hx => (by cases hx), fun x hx => (by cases hx)⟩ (by simp)⟩
    rw [show (c' == 0) = false from beq_eq_false_iff_ne.2 hc0, cond_false]
    obtain ⟨q, hq, q0, q1, q2⟩ := up_val n c' v (by omega) (by omega) (by omega)
    rw [hq, Option.bind_some, wrap64 (z := now.Node_Time + q) (by omega) (by omega)]
    by_cases hbig : now.Node_Time + q > 200000
    · rw [decide_eq_true hbig, cond_true]; exact ⟨_, rfl, .inl (by show (12 : Int) ≠ 0; decide)⟩
    rw [decide_eq_false hbig, cond_false]
    have hq1 : 1 ≤ q := by
      refine Decidable.byContradiction fun h => ?_
      have : q = 0 := by omega
      rw [this, Int.zero_mul] at q2
      omega
    obtain ⟨c1, c2, c3, c4, c5, c6, c7, c8, c9⟩ := hnow
    refine ⟨_, rfl, Fine.of_lat ok ⟨c1, c2, c3, c4, c5, c6, c7, c8, c9⟩ ht ⟨List.pairwise_cons.2 ⟨fun x hx => (by cases hx), List.Pairwise.nil⟩, fun x hx => ?_, fun x hx => ?_⟩ (by simp)⟩
    · rw [List.mem_singleton.1 hx]
      exact ⟨by show 0 ≤ now.Node_Time + q; omega, by show now.Node_Time + q ≤ 200000; omega, hfix, c4, c5, c6, c7, c8, c9⟩
    · rw [List.mem_singleton.1 hx]
      show t < now.Node_Time + q
      omega
  rw [show (c.Kind == 3) = false from beq_eq_false_iff_ne.2 k3, cond_false]
  exact ⟨_, rfl, .inr ⟨rfl, .inl rfl⟩⟩
end Go.Proofs.YtbbfpbngnkjkdaaDoor
/- EffectBefore: before the time of a clearance nothing changes, up to rounding. -/
set_option linter.unusedVariables false
set_option linter.unusedSimpArgs false
set_option maxHeartbeats 4000000
namespace Go.Proofs.YtbbfpbngnkjkdaaDoor

theorem ifmax {a b M : Int} (h1 : a ≤ M) (h2 : b ≤ M) : (if a > b then a else b) ≤ M := by split <;> omega
theorem at_f (n : Nat) (hn : 64 < n) (l : List TTubeNode) (h : TubeOk l) (u : Int) (x0 x1 : TTubeNode) (h0 : l[0]? = some x0) (h1 : l[l.length - 1]? = some x1) (ht0 : x0.Node_Time ≤ u) (ht1 : u ≤ x1.Node_Time) : ∃ r, g8 n l u = some (r, 0) ∧ AtF l u r := by
  obtain ⟨r, e, k1, k2, k3⟩ := At_full n hn l h (check_ok n hn l h) u x0 x1 h0 h1 ht0 ht1
  exact ⟨r, e, k1, k2, k3⟩
theorem before_loop (n : Nat) (l m : List TTubeNode) (t : Int) (ht : 0 ≤ t ∧ t ≤ 200000) (x0 : Int) (hx0 : 0 ≤ x0 ∧ x0 ≤ t) (hn : 200200 < n)
    (H : ∀ u, x0 ≤ u → u ≤ t → ∃ r s, g8 n l u = some (r, 0) ∧ g8 n m u = some (s, 0) ∧ NodeB r ∧ NodeB s ∧ near1 r s ∧ (u = t → r = s)) :
    iterO (fun y : Int => S3_0 n l t false m y) n x0 = some true := by
  refine (iterO_rule (S := fun y : Int => S3_0 n l t false m y) (fun y => x0 ≤ y ∧ y ≤ t + 1) (fun r => r = true) (fun y => (t + 1 - y).toNat) ?_ n x0 ⟨by omega, by omega⟩ (by omega)).elim fun r hr => by rw [hr.1, hr.2]
  intro y hy
  show (∃ z, S3_0 n l t false m y = some (.inl z) ∧ _) ∨ ∃ r, S3_0 n l t false m y = some (.inr r) ∧ _
  unfold S3_0
  by_cases hyt : y ≤ t
  case neg =>
    rw [decide_eq_false hyt, cond_false]
    exact .inr ⟨_, rfl, rfl⟩
  obtain ⟨r, s, e1, e2, nr, ns, hne, heq⟩ := H y hy.1 hyt
  rw [decide_eq_true hyt, cond_true, e1, Option.bind_some, e2, Option.bind_some, show ((0 : Int) != 0) = false from rfl, cond_false, cond_false]
  have esub : g9 n (⟨r.Node_At_X, r.Node_At_Y⟩ : TP) (⟨s.Node_At_X, s.Node_At_Y⟩ : TP) = some (⟨r.Node_At_X - s.Node_At_X, r.Node_At_Y - s.Node_At_Y⟩ : TP) := by
    obtain ⟨⟨a1, a2⟩, ⟨a3, a4⟩, -⟩ := hne
    unfold g9
    show some (⟨IntKind.wrap .i64 (r.Node_At_X - s.Node_At_X), IntKind.wrap .i64 (r.Node_At_Y - s.Node_At_Y)⟩ : TP) = _
    rw [wrap64 (by omega) (by omega), wrap64 (by omega) (by omega)]
  rw [esub, Option.bind_some]
  obtain ⟨⟨a1, a2⟩, ⟨a3, a4⟩, ⟨a5, a6⟩⟩ := hne
  have w1 : IntKind.wrap .i64 (s.Node_Height - r.Node_Height) ≤ 1 := by rw [wrap64 (by omega) (by omega)]; omega
  have w2 : IntKind.wrap .i64 (r.Node_Height - s.Node_Height) ≤ 1 := by rw [wrap64 (by omega) (by omega)]; omega
  have w3 : IntKind.wrap .i64 (0 - (r.Node_At_X - s.Node_At_X)) ≤ 1 := by rw [wrap64 (by omega) (by omega)]; omega
  have w4 : IntKind.wrap .i64 (0 - (r.Node_At_Y - s.Node_At_Y)) ≤ 1 := by rw [wrap64 (by omega) (by omega)]; omega
  have hmax := ifmax w1 (ifmax w2 (ifmax w4 (ifmax a4 (ifmax w3 a2))))
  rw [decide_eq_false (Int.not_lt.2 hmax), cond_false]
  have hstep : IntKind.wrap .i64 (y + 1) = y + 1 := wrap64 (by omega) (by omega)
  rw [hstep]
  refine .inl ⟨y + 1, ?_, ⟨by omega, by omega⟩, by omega⟩
  by_cases hyt2 : y = t
  · have := heq hyt2
    subst this
    rw [beq_iff_eq.2 hyt2, cond_true, decide_eq_true rfl, Bool.not_true, cond_false]
  · rw [show (y == t) = false from beq_eq_false_iff_ne.2 hyt2, cond_false]
theorem before_law (l : List TTubeNode) (c : TClearance) (t : Int) (k : TKind) (fix : TP) : g3 200300 l c t k fix = some true := by
  unfold g3
  rw [effect_fact, Option.bind_some, Bool.not_true, cond_false]
  obtain ⟨b, eb⟩ : ∃ b, g5 200300 ([l] : List (List TTubeNode)) 1 400 = some b := by
    rcases small_cases 200300 (by omega) [l] 1 400 (by simp) (by simp) with ⟨h, -⟩ | h
    · exact ⟨_, h⟩
    · exact ⟨_, h⟩
  rw [eb, Option.bind_some]
  cases b
  · rfl
  rw [Bool.not_true, cond_false]
  rcases of_cases 200300 (by omega) l c t k fix with ⟨y, hy, e1⟩ | ⟨ec, ok, hk, hfix, now, e4, e1⟩
  · rw [e1, Option.bind_some, bne_iff_ne.2 hy, cond_true]; rfl
  obtain ⟨n1, n2, n3, n4, n5⟩ := At_ok 200300 (by omega) l ok ec t now e4
  have hlen := ok.len
  have hpos := ok.pos
  have hx0 : l[0]? = some l[0] := List.getElem?_eq_getElem (by omega)
  have hxl : l[l.length - 1]? = some l[l.length - 1] := List.getElem?_eq_getElem (by omega)
  have hf := first_le 200300 (by omega) l ok ec t now _ _ hx0 hxl e4
  have hn0 : 0 ≤ l[0].Node_Time := (ok.nodes _ (List.mem_of_getElem? hx0)).1
  have hlast := n5 _ hxl
  obtain ⟨now', er, hnow⟩ := at_f 200300 (by omega) l ok t _ _ hx0 hxl hf hlast
  rw [e4] at er
  cases er
  obtain ⟨r, hr, hfine⟩ := carried_val 200300 (by omega) l ok ec c t now k fix hfix hk e4 hnow.nb n1
  have fin : ∀ m : List TTubeNode, ofEnd 200300 l c t now k fix = some (m, 0) → TubeOk m → (∀ y0, m[0]? = some y0 → y0.Node_Time = l[0].Node_Time) → (∀ u, l[0].Node_Time ≤ u → u ≤ t → ∃ r s, g8 200300 l u = some (r, 0) ∧ g8 200300 m u = some (s, 0) ∧ NodeB r ∧ NodeB s ∧ near1 r s ∧ (u = t → r = s)) → _ := fun m hm mok m0 H => by
    show ((g6 200300 l c t k fix).bind fun x752 =>
      bif (x752.2 != (0)) then (some ((x752.1.length : Int) == (0))) else
      (g7 200300 x752.1).bind fun x753 =>
      bif (x753 != (0)) then (some (false)) else
      (getI x752.1 (0)).bind fun x754 =>
      (getI l (0)).bind fun x755 =>
      bif (x754.Node_Time != x755.Node_Time) then (some (false)) else
      (getI l (0)).bind fun x756 =>
      iterO (fun y : Int => S3_0 200300 l t false x752.1 y) 200300 x756.Node_Time) = some true
    have mp := mok.pos
    have hm0 : m[0]? = some m[0] := List.getElem?_eq_getElem (by omega)
    have gm0 : getI m 0 = some m[0] := getI_at (i := 0) hm0
    have gl0 : getI l 0 = some l[0] := getI_at (i := 0) hx0
    rw [e1, hm, Option.bind_some, show ((0 : Int) != 0) = false from rfl, cond_false]
    show ((g7 200300 m).bind fun x753 => _) = _
    rw [check_ok 200300 (by omega) m mok, Option.bind_some, show ((0 : Int) != 0) = false from rfl, cond_false, gm0, Option.bind_some, gl0, Option.bind_some, m0 _ hm0, show (l[0].Node_Time != l[0].Node_Time) = false from by simp, cond_false, Option.bind_some]
    exact before_loop 200300 l m t ⟨n3, n4⟩ _ ⟨hn0, hf⟩ (by omega) H
  have err : ∀ (x : List TTubeNode) (z : Int), z ≠ 0 → x = [] → ofEnd 200300 l c t now k fix = some (x, z) → _ := fun x z hz hx h => by
    show ((g6 200300 l c t k fix).bind fun x752 =>
      bif (x752.2 != (0)) then (some ((x752.1.length : Int) == (0))) else
      (g7 200300 x752.1).bind fun x753 =>
      bif (x753 != (0)) then (some (false)) else
      (getI x752.1 (0)).bind fun x754 =>
      (getI l (0)).bind fun x755 =>
      bif (x754.Node_Time != x755.Node_Time) then (some (false)) else
      (getI l (0)).bind fun x756 =>
      iterO (fun y : Int => S3_0 200300 l t false x752.1 y) 200300 x756.Node_Time) = some true
    rw [e1, h, Option.bind_some, bne_iff_ne.2 hz, cond_true, hx]; rfl
  obtain ⟨W, same, e⟩ := r
  rcases hfine with h | ⟨h0, h⟩
  · refine err [] e h rfl ?_
    unfold ofEnd
    rw [hr, Option.bind_some]
    show (bif (e != 0) then _ else _) = _
    rw [bne_iff_ne.2 h, cond_true]
  have h0 : e = 0 := h0
  subst h0
  rcases h with h | ⟨h1, h2, h3, h4⟩
  · have h : same = true := h
    subst h
    refine fin l ?_ ok (fun y0 hy0 => by rw [hx0] at hy0; cases hy0; rfl) fun u u1 u2 => ?_
    · unfold ofEnd
      rw [hr, Option.bind_some, room_of (by omega) (by omega)]
      rfl
    · obtain ⟨r, er, hru⟩ := at_f 200300 (by omega) l ok u _ _ hx0 hxl u1 (by omega)
      exact ⟨r, r, er, er, hru.nb, hru.nb, near1.self r, fun _ => rfl⟩
  have h1 : same = false := h1
  subst h1
  have hb := bef_len l t
  have h2 : W.length ≤ 66 := h2
  have hcat : catO 48 ([bef l t, ([(⟨now.Node_Time, now.Node_At_X, now.Node_At_Y, now.Node_Height, now.Radius, now.Band⟩ : TTubeNode)] : List TTubeNode), W] : List (List TTubeNode)) = some (bef l t ++ now :: W) := by
    rw [cat_ok (by simp) (by simp; omega)]
    simp
  have hend : ofEnd 200300 l c t now k fix = bif (decide (((bef l t ++ now :: W).length : Int) > (64))) then some ([], (2)) else some (bef l t ++ now :: W, (0)) := by
    unfold ofEnd
    rw [hr, Option.bind_some]
    show (bif ((0 : Int) != 0) then _ else bif false then _ else (catO 48 ([bef l t, ([(⟨now.Node_Time, now.Node_At_X, now.Node_At_Y, now.Node_Height, now.Radius, now.Band⟩ : TTubeNode)] : List TTubeNode), W] : List (List TTubeNode))).bind _) = _
    rw [hcat]
    rfl
  by_cases h64 : ((bef l t ++ now :: W).length : Int) > 64
  · rw [decide_eq_true h64, cond_true] at hend
    exact err [] 2 (by decide) rfl hend
  rw [decide_eq_false h64, cond_false] at hend
  have mok : TubeOk (bef l t ++ now :: W) := h4 (by show (bef l t ++ now :: W).length ≤ 64; omega)
  have hWt : ∀ x ∈ W, t < x.Node_Time := h3
  have mp := mok.pos
  have hm0 : (bef l t ++ now :: W)[0]? = some (bef l t ++ now :: W)[0] := List.getElem?_eq_getElem (by omega)
  have hml : (bef l t ++ now :: W)[(bef l t ++ now :: W).length - 1]? = some (bef l t ++ now :: W)[(bef l t ++ now :: W).length - 1] := List.getElem?_eq_getElem (by omega)
  have mnow : now ∈ bef l t ++ now :: W := by simp
  obtain ⟨j, hj⟩ := List.getElem?_of_mem mnow
  have tl : t ≤ ((bef l t ++ now :: W)[(bef l t ++ now :: W).length - 1]).Node_Time := by
    have := mok.srt.le (show j ≤ (bef l t ++ now :: W).length - 1 by have := some_lt hj; omega) hj hml
    omega
  have m0t : ((bef l t ++ now :: W)[0]).Node_Time = l[0].Node_Time := by
    rcases Int.lt_or_eq_of_le hf with q | q
    · have mb : l[0] ∈ bef l t ++ now :: W := List.mem_append_left _ (List.mem_filter.2 ⟨List.mem_of_getElem? hx0, decide_eq_true q⟩)
      obtain ⟨i, hi⟩ := List.getElem?_of_mem mb
      have le1 := mok.srt.le (Nat.zero_le i) hm0 hi
      have le2 : l[0].Node_Time ≤ ((bef l t ++ now :: W)[0]).Node_Time := by
        have hmem := List.mem_of_getElem? hm0
        rcases List.mem_append.1 hmem with p | p
        · obtain ⟨i', hi'⟩ := List.getElem?_of_mem (List.mem_filter.1 p).1
          exact ok.srt.le (Nat.zero_le i') hx0 hi'
        · rcases List.mem_cons.1 p with p | p
          · rw [p]; omega
          · have := hWt _ p; omega
      omega
    · have hbn : bef l t = [] := by
        rw [List.eq_nil_iff_forall_not_mem]
        intro x hx
        obtain ⟨p1, p2⟩ := List.mem_filter.1 hx
        obtain ⟨i', hi'⟩ := List.getElem?_of_mem p1
        have := ok.srt.le (Nat.zero_le i') hx0 hi'
        have p2 : x.Node_Time < t := by simpa using p2
        omega
      have : (bef l t ++ now :: W)[0]? = some now := by rw [hbn]; rfl
      rw [hm0] at this
      rw [Option.some.inj this]
      omega
  refine fin _ hend mok (fun y0 hy0 => by rw [hm0] at hy0; rw [← Option.some.inj hy0]; exact m0t) fun u u1 u2 => ?_
  obtain ⟨r, er, hru⟩ := at_f 200300 (by omega) l ok u _ _ hx0 hxl u1 (by omega)
  obtain ⟨s, es, hsu⟩ := at_f 200300 (by omega) _ mok u _ _ hm0 hml (by omega) (by omega)
  obtain ⟨ag1, ag2⟩ := agree ok.srt mok.srt rfl hWt hnow u2 hru hsu
  refine ⟨r, s, er, es, hru.nb, hsu.nb, ag1, fun eu => ?_⟩
  have hrn : r = now := by
    subst eu
    rw [er] at e4
    cases e4
    rfl
  rw [ag2 eu hrn, hrn]
end Go.Proofs.YtbbfpbngnkjkdaaDoor
