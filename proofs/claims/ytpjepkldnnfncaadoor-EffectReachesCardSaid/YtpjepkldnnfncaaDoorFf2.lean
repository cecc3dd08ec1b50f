/- EffectFirst: Differs is symmetric. -/
import Derived.Test.YtpjepkldnnfncaaDoorFf1
set_option linter.unusedVariables false
set_option linter.unusedSimpArgs false
namespace Go.Proofs.YtpjepkldnnfncaaDoor

theorem effect_fact : g9 200300 = some true := by decide +kernel
/- small -/
theorem small_cases (n : Nat) (hn : 64 < n) (L : List (List TTubeNode)) (m w : Int) (hL : (L.length : Int) ≤ m) (hL2 : L.length ≤ 64) : (g10 n L m w = some true ∧ ∀ l ∈ L, g12 n l = some 0 ∧ TubeOk l ∧ ∀ x0 x1, l[0]? = some x0 → l[l.length - 1]? = some x1 → x1.Node_Time - x0.Node_Time ≤ w) ∨ g10 n L m w = some false := by
  unfold g10
  rw [decide_eq_false (show ¬ (L.length : Int) > m by omega), cond_false]
  obtain ⟨r, hr, h⟩ := iter_each (S := fun y : Int => S10_0 n w false L (L.length : Int) y) L (fun i l => g12 n l = some 0 ∧ TubeOk l ∧ ∀ x0 x1, l[0]? = some x0 → l[l.length - 1]? = some x1 → x1.Node_Time - x0.Node_Time ≤ w) (fun r => r = false) true (fun i l hl => by
    have hlt := some_lt hl
    unfold S10_0
    rw [decide_eq_true (show (i : Int) < (L.length : Int) by omega), cond_true, getI_at hl, Option.bind_some, wS (by omega)]
    rcases check_tot n hn l with ⟨e, ok⟩ | ⟨z, hz, e⟩
    · rw [e, Option.bind_some, show ((0 : Int) != 0) = false from rfl, cond_false]
      have hp := ok.pos
      have hq := ok.len
      have hw : IntKind.wrap .i64 ((l.length : Int) - 1) = ((l.length - 1 : Nat) : Int) := by rw [wrap64 (by omega) (by omega)]; omega
      have h0 : l[0]? = some l[0] := List.getElem?_eq_getElem hp
      have h1 : l[l.length - 1]? = some l[l.length - 1] := List.getElem?_eq_getElem (by omega)
      have g0 : getI l 0 = some l[0] := getI_at (i := 0) h0
      have b0 := ok.nodes _ (List.mem_of_getElem? h0)
      have b1 := ok.nodes _ (List.mem_of_getElem? h1)
      rw [hw, getI_at h1, g0]
      simp only [Option.bind_some]
      rw [wrap64 (by have := b0.1; have := b0.2.1; have := b1.1; have := b1.2.1; omega) (by have := b0.1; have := b0.2.1; have := b1.1; have := b1.2.1; omega)]
      by_cases c : l[l.length - 1].Node_Time - l[0].Node_Time > w
      · right; rw [decide_eq_true c, cond_true]; exact ⟨_, rfl, rfl⟩
      · left; rw [decide_eq_false c, cond_false]
        refine ⟨rfl, by first | exact e | trivial, ok, fun x0 x1 k0 k1 => by rw [h0] at k0; rw [h1] at k1; cases k0; cases k1; omega⟩
    · right; rw [e, Option.bind_some, show (z != 0) = true from bne_iff_ne.2 hz, cond_true]; exact ⟨_, rfl, rfl⟩) (by
    unfold S10_0
    rw [decide_eq_false (Int.lt_irrefl _)]; rfl) n (by omega)
  rcases h with rfl | ⟨rfl, h⟩
  · exact .inr hr
  · left; exact ⟨hr, fun l hl => by obtain ⟨i, hi⟩ := List.getElem?_of_mem hl; exact h i l hi⟩
/- where two tubes differ -/
def atR (n : Nat) (l : List TTubeNode) (t : Int) : TTubeNode × Int := (g13 n l t).getD (zeroN, 12)
def diffAt (n : Nat) (a b : List TTubeNode) (t : Int) : Prop := (atR n a t).2 ≠ (atR n b t).2 ∨ ((atR n a t).1.Node_At_X ≠ (atR n b t).1.Node_At_X ∨ (atR n a t).1.Node_At_Y ≠ (atR n b t).1.Node_At_Y) ∨ (atR n a t).1.Node_Height ≠ (atR n b t).1.Node_Height
theorem diffAt_comm (n : Nat) (a b : List TTubeNode) (t : Int) : diffAt n a b t ↔ diffAt n b a t := by
  unfold diffAt
  constructor <;> rintro (h | (h | h) | h)
  · exact .inl (Ne.symm h)
  · exact .inr (.inl (.inl (Ne.symm h)))
  · exact .inr (.inl (.inr (Ne.symm h)))
  · exact .inr (.inr (Ne.symm h))
  · exact .inl (Ne.symm h)
  · exact .inr (.inl (.inl (Ne.symm h)))
  · exact .inr (.inl (.inr (Ne.symm h)))
  · exact .inr (.inr (Ne.symm h))
theorem atR_eq (n : Nat) (hn : 64 < n) (l : List TTubeNode) (h : TubeOk l) (hc : g12 n l = some 0) (t : Int) : g13 n l t = some (atR n l t) ∧ ((atR n l t).2 = 0 ∨ atR n l t = (zeroN, 12)) := by
  have hp := h.pos
  have h0 : l[0]? = some l[0] := List.getElem?_eq_getElem hp
  have h1 : l[l.length - 1]? = some l[l.length - 1] := List.getElem?_eq_getElem (by omega)
  rcases At_cases n hn l h hc t _ _ h0 h1 with ⟨-, -, r, -, e⟩ | ⟨-, e⟩
  · unfold atR; rw [e]; exact ⟨rfl, .inl rfl⟩
  · unfold atR; rw [e]; exact ⟨rfl, .inr rfl⟩
theorem minI (a b : Int) : (if b < a then b else a) = min a b := by simp only [Int.min_def]; split <;> split <;> omega
theorem maxI (a b : Int) : (if b > a then b else a) = max a b := by simp only [Int.max_def]; split <;> split <;> omega
/- Differs of valid tubes -/
theorem differs_cases (n : Nat) (hn : 200200 < n) (a b : List TTubeNode) (ha : TubeOk a) (hb : TubeOk b) (ca : g12 n a = some 0) (cb : g12 n b = some 0) (a0 a1 b0 b1 : TTubeNode) (ka0 : a[0]? = some a0) (ka1 : a[a.length - 1]? = some a1) (kb0 : b[0]? = some b0) (kb1 : b[b.length - 1]? = some b1) :
    (max a1.Node_Time b1.Node_Time - min a0.Node_Time b0.Node_Time > 20000 ∧ g16 n a b = some (0, 2)) ∨
    (max a1.Node_Time b1.Node_Time - min a0.Node_Time b0.Node_Time ≤ 20000 ∧ ((∃ s, min a0.Node_Time b0.Node_Time ≤ s ∧ s ≤ max a1.Node_Time b1.Node_Time ∧ diffAt n a b s ∧ (∀ u, min a0.Node_Time b0.Node_Time ≤ u → u < s → ¬ diffAt n a b u) ∧ g16 n a b = some (s, 0)) ∨ ((∀ u, min a0.Node_Time b0.Node_Time ≤ u → u ≤ max a1.Node_Time b1.Node_Time → ¬ diffAt n a b u) ∧ g16 n a b = some (0, 8)))) := by
  have pa := ha.pos
  have pb := hb.pos
  have qa := ha.len
  have qb := hb.len
  have wa : IntKind.wrap .i64 ((a.length : Int) - 1) = ((a.length - 1 : Nat) : Int) := by rw [wrap64 (by omega) (by omega)]; omega
  have wb : IntKind.wrap .i64 ((b.length : Int) - 1) = ((b.length - 1 : Nat) : Int) := by rw [wrap64 (by omega) (by omega)]; omega
  have ga0 : getI a 0 = some a0 := getI_at (i := 0) ka0
  have gb0 : getI b 0 = some b0 := getI_at (i := 0) kb0
  have ta0 := ha.nodes a0 (List.mem_of_getElem? ka0)
  have ta1 := ha.nodes a1 (List.mem_of_getElem? ka1)
  have tb0 := hb.nodes b0 (List.mem_of_getElem? kb0)
  have tb1 := hb.nodes b1 (List.mem_of_getElem? kb1)
  have hrun : ∀ r, S16_0 n a b 0 [a, b] 2 2 = some (.inr r) → g16 n a b = some r := fun r h => by
    unfold g16
    have s0 : S16_0 n a b 0 [a, b] 2 0 = some (.inl 1) := by
      unfold S16_0
      have : getI [a, b] 0 = some a := rfl
      rw [this, Option.bind_some, ca]; rfl
    have s1 : S16_0 n a b 0 [a, b] 2 1 = some (.inl 2) := by
      unfold S16_0
      have : getI [a, b] 1 = some b := rfl
      rw [this, Option.bind_some, cb]; rfl
    obtain ⟨m, rfl⟩ : ∃ m, n = m + 3 := ⟨n - 3, by omega⟩
    show iterO (fun y : Int => S16_0 (m + 3) a b 0 [a, b] 2 y) (m + 3) 0 = some r
    simp only [iterO, s0, s1, h]
  have hS : S16_0 n a b 0 [a, b] 2 2 = bif decide (max a1.Node_Time b1.Node_Time - min a0.Node_Time b0.Node_Time > 20000) then some (.inr (0, 2)) else (iterO (fun y : Int => S16_1 n a b 0 (max a1.Node_Time b1.Node_Time) y) n (min a0.Node_Time b0.Node_Time)).map Sum.inr := by
    unfold S16_0
    rw [show decide ((2 : Int) < 2) = false from rfl, cond_false, ga0, gb0, wa, wb, getI_at ka1, getI_at kb1]
    simp only [Option.bind_some]
    rw [minI, maxI, wrap64 (by have := ta0.1; have := ta0.2.1; have := tb0.1; have := tb0.2.1; have := ta1.1; have := ta1.2.1; have := tb1.1; have := tb1.2.1; omega) (by have := ta0.1; have := ta0.2.1; have := tb0.1; have := tb0.2.1; have := ta1.1; have := ta1.2.1; have := tb1.1; have := tb1.2.1; omega)]
  by_cases hbig : max a1.Node_Time b1.Node_Time - min a0.Node_Time b0.Node_Time > 20000
  · refine .inl ⟨hbig, hrun _ ?_⟩
    rw [hS, decide_eq_true hbig, cond_true]
  · refine .inr ⟨by omega, ?_⟩
    rw [decide_eq_false hbig, cond_false] at hS
    have hlo : 0 ≤ min a0.Node_Time b0.Node_Time := by have := ta0.1; have := tb0.1; omega
    have hhi : max a1.Node_Time b1.Node_Time ≤ 200000 := by have := ta1.2.1; have := tb1.2.1; omega
    generalize hlo' : min a0.Node_Time b0.Node_Time = lo at *
    generalize hhi' : max a1.Node_Time b1.Node_Time = hi at *
    have hle : lo ≤ hi := by
      have : a0.Node_Time ≤ a1.Node_Time := ha.le' (Nat.zero_le _) ka0 ka1
      omega
    have step : ∀ t : Int, t ≤ hi → (diffAt n a b t ∧ S16_1 n a b 0 hi t = some (.inr (t, 0))) ∨ (¬ diffAt n a b t ∧ S16_1 n a b 0 hi t = some (.inl (IntKind.wrap .i64 (t + 1)))) := by
      intro t ht
      obtain ⟨ea, -⟩ := atR_eq n (by omega) a ha ca t
      obtain ⟨eb, -⟩ := atR_eq n (by omega) b hb cb t
      unfold S16_1 diffAt
      rw [decide_eq_true ht, cond_true, ea, eb]
      simp only [Option.bind_some]
      by_cases c1 : (atR n a t).2 = (atR n b t).2
      · rw [show ((atR n a t).2 != (atR n b t).2) = false from by simp [c1], cond_false]
        by_cases c2 : (⟨(atR n a t).1.Node_At_X, (atR n a t).1.Node_At_Y⟩ : TP) = ⟨(atR n b t).1.Node_At_X, (atR n b t).1.Node_At_Y⟩
        · rw [decide_eq_true c2, Bool.not_true, cond_false]
          simp only [TP.mk.injEq] at c2
          by_cases c3 : (atR n a t).1.Node_Height = (atR n b t).1.Node_Height
          · rw [show ((atR n a t).1.Node_Height != (atR n b t).1.Node_Height) = false from by simp [c3], cond_false]
            right; exact ⟨by simp [c1, c2, c3], rfl⟩
          · rw [show ((atR n a t).1.Node_Height != (atR n b t).1.Node_Height) = true from by simp [c3], cond_true]
            left; exact ⟨.inr (.inr c3), rfl⟩
        · rw [decide_eq_false c2, Bool.not_false, cond_true]
          left; refine ⟨.inr (.inl ?_), rfl⟩
          simp only [TP.mk.injEq] at c2
          by_cases e : (atR n a t).1.Node_At_X = (atR n b t).1.Node_At_X
          · exact .inr fun e2 => c2 ⟨e, e2⟩
          · exact .inl e
      · rw [show ((atR n a t).2 != (atR n b t).2) = true from by simp [c1], cond_true]
        left; exact ⟨.inl c1, rfl⟩
    obtain ⟨r, hr, hq⟩ := iterO_rule (S := fun y : Int => S16_1 n a b 0 hi y)
      (fun t => lo ≤ t ∧ t ≤ hi + 1 ∧ ∀ u, lo ≤ u → u < t → ¬ diffAt n a b u)
      (fun r => (∃ s, lo ≤ s ∧ s ≤ hi ∧ diffAt n a b s ∧ (∀ u, lo ≤ u → u < s → ¬ diffAt n a b u) ∧ r = (s, 0)) ∨ ((∀ u, lo ≤ u → u ≤ hi → ¬ diffAt n a b u) ∧ r = (0, 8)))
      (fun t => (hi + 1 - t).toNat) (by
        rintro t ⟨t1, t2, t3⟩
        by_cases ht : t ≤ hi
        · rcases step t ht with ⟨d, e⟩ | ⟨d, e⟩
          · right; exact ⟨_, e, .inl ⟨t, t1, ht, d, t3, rfl⟩⟩
          · left
            rw [wrap64 (by omega) (by omega)] at e
            refine ⟨_, e, ⟨by omega, by omega, fun u u1 u2 => ?_⟩, by omega⟩
            rcases Int.lt_or_eq_of_le (show u ≤ t by omega) with h | rfl
            · exact t3 u u1 h
            · exact d
        · right
          refine ⟨(0, 8), ?_, .inr ⟨fun u u1 u2 => t3 u u1 (by omega), rfl⟩⟩
          show S16_1 n a b 0 hi t = _
          unfold S16_1
          rw [decide_eq_false ht]; rfl) n lo ⟨Int.le_refl _, by omega, fun u u1 u2 => by omega⟩ (by omega)
    have hd := hrun r (by rw [hS]; rw [show iterO (fun y : Int => S16_1 n a b 0 hi y) n lo = some r from hr]; rfl)
    rcases hq with ⟨s, s1, s2, s3, s4, rfl⟩ | ⟨s1, rfl⟩
    · exact .inl ⟨s, s1, s2, s3, s4, hd⟩
    · exact .inr ⟨s1, hd⟩
/- a tube does not differ from itself -/
theorem not_diff_self (n : Nat) (a : List TTubeNode) (t : Int) : ¬ diffAt n a a t := by
  rintro (h | (h | h) | h) <;> exact h rfl
end Go.Proofs.YtpjepkldnnfncaaDoor
