/- RunwayTurns as a plain program. -/
import Derived.Test.YtfmodgffhbljoaaRun4
set_option linter.unusedVariables false
set_option linter.unusedSimpArgs false
namespace Go.Proofs.Ytfmodgffhbljoaa

theorem runway_fact : g17 301 = some true := by decide +kernel
theorem bne0 {a : Int} (h : a ≠ 0) : (a != (0)) = true := bne_iff_ne.2 h
theorem beq_f {a b : Int} (h : a ≠ b) : (a == b) = false := beq_eq_false_iff_ne.2 h
/- Change: an error and nothing, or the list with one more -/
theorem change_tot (n : Nat) (hn : 100 < n) (l : List TRunwayMove) (s : List TRunwaySpan) (at_ : Int) :
    (∃ z, z ≠ 0 ∧ g18 n l s at_ = some ([], z)) ∨ (∃ e, MovesOk l ∧ SpansOk s ∧ s.length < 24 ∧ s[s.length - 1]? = some e ∧ 0 ≤ at_ ∧ at_ ≤ 200000 ∧ e.From + 360 ≤ at_ ∧ (∀ x ∈ l, x.Time + 180 ≤ at_) ∧ g18 n l s at_ = some (s ++ [⟨at_, 1 - e.End⟩], 0)) := by
  unfold g18
  obtain ⟨z, e, hz⟩ := moves_tot n hn l
  rw [e]
  simp only [Option.bind_some]
  by_cases hz0 : z = 0
  rotate_left
  · rw [bne0 hz0]; exact .inl ⟨z, hz0, rfl⟩
  have hm := hz hz0
  subst hz0
  obtain ⟨w, e, hw, -⟩ := spans_tot n hn s
  rw [e]
  simp only [Option.bind_some, bne_self_eq_false, cond_false]
  by_cases hw0 : w = 0
  rotate_left
  · rw [bne0 hw0]; exact .inl ⟨w, hw0, rfl⟩
  have hs := hw hw0
  subst hw0
  have hp := hs.pos
  have hl := hs.len
  have hml := hm.len
  have he : s[s.length - 1]? = some (s[s.length - 1]'(by omega)) := List.getElem?_eq_getElem (by omega)
  generalize s[s.length - 1]'(by omega) = e at he
  obtain ⟨ee, f0, f1, -⟩ := hs.one he
  have hg : getI s (IntKind.wrap .i64 ((s.length : Int) - 1)) = some e := by
    rw [wrap64 (by omega) (by omega), show (s.length : Int) - 1 = ((s.length - 1 : Nat) : Int) by omega]
    exact getI_at he
  rw [hg]
  simp only [Option.bind_some, bne_self_eq_false, cond_false]
  by_cases h24 : (s.length : Int) = 24
  · rw [show ((s.length : Int) == 24) = true from beq_iff_eq.2 h24]; exact .inl ⟨9, by decide, rfl⟩
  rw [beq_f h24, wrongT_eq]
  simp only [Option.bind_some, cond_false]
  by_cases ht : at_ < 0 ∨ at_ > 200000
  · rw [decide_eq_true ht]; exact .inl ⟨12, by decide, rfl⟩
  rw [decide_eq_false ht, cond_false, wrap64 (z := e.From + 360) (by omega) (by omega), wrap64 (z := at_ - 180) (by omega) (by omega), wrap64 (z := 1 - e.End) (by omega) (by omega)]
  by_cases hf : at_ < e.From + 360
  · rw [decide_eq_true hf]; exact .inl ⟨12, by decide, rfl⟩
  rw [decide_eq_false hf, cond_false]
  have r1 : roomO s.length 16 = some () := room_of (by omega) (by omega)
  have r2 : roomO (s.length + ([(⟨at_, 1 - e.End⟩ : TRunwaySpan)] : List TRunwaySpan).length) 16 = some () := room_of (by simp; omega) (by simp; omega)
  rw [r1]
  simp only [Option.bind_some]
  rw [r2]
  simp only [Option.bind_some]
  rcases Nat.eq_zero_or_pos l.length with hl0 | hl0
  · rw [decide_eq_false (show ¬ (l.length : Int) > 0 by omega)]
    refine .inr ⟨e, hm, hs, by omega, he, by omega, by omega, by omega, fun x hx => ?_, rfl⟩
    rw [List.eq_nil_of_length_eq_zero hl0] at hx
    cases hx
  rw [decide_eq_true (show (l.length : Int) > 0 by omega)]
  have hx : l[l.length - 1]? = some (l[l.length - 1]'(by omega)) := List.getElem?_eq_getElem (by omega)
  generalize l[l.length - 1]'(by omega) = y at hx
  have hg2 : getI l (IntKind.wrap .i64 ((l.length : Int) - 1)) = some y := by
    rw [wrap64 (by omega) (by omega), show (l.length : Int) - 1 = ((l.length - 1 : Nat) : Int) by omega]
    exact getI_at hx
  rw [hg2]
  simp only [cond_true, Option.bind_some]
  by_cases hy : y.Time > at_ - 180
  · rw [decide_eq_true hy]; exact .inl ⟨15, by decide, rfl⟩
  rw [decide_eq_false hy]
  refine .inr ⟨e, hm, hs, by omega, he, by omega, by omega, by omega, fun x hm2 => ?_, rfl⟩
  have all : ∀ (k i : Nat) (x : TRunwayMove), i + k + 1 = l.length → l[i]? = some x → x.Time ≤ y.Time := by
    intro k
    induction k with
    | zero =>
      intro i x hi h
      rw [show l.length - 1 = i by omega, h] at hx
      cases hx; exact Int.le_refl _
    | succ k ih =>
      intro i x hi h
      have h2 : l[i + 1]? = some (l[i + 1]'(by omega)) := List.getElem?_eq_getElem (by omega)
      have := hm.sorted i x _ h h2
      have := ih (i + 1) _ (by omega) h2
      omega
  obtain ⟨i, hi, rfl⟩ := List.getElem_of_mem hm2
  have := all (l.length - 1 - i) i _ (by omega) (List.getElem?_eq_getElem hi)
  omega
theorem turn_dir (n : Nat) (hn : 100 < n) (u : List TRunwaySpan) (hu : SpansOk u) (t : Int) (t0 : 0 ≤ t) (t1 : t ≤ 200000) : g20 n u t = some (if (dirO t u).2 then ((dirO t u).1, 0) else (0, 14)) := by
  unfold g20
  obtain ⟨w, e, -, hw⟩ := spans_tot n hn u
  rw [e, hw hu, Option.bind_some, bne_self_eq_false, cond_false, wrongT_eq, Option.bind_some, decide_eq_false (show ¬ (t < 0 ∨ t > 200000) by omega), cond_false, dir_eq n hn u hu.len hu.pos (fun x hx => (hu.mem hx).2) t t0 t1, Option.bind_some]
  cases (dirO t u).2 <;> rfl
theorem turns_plain (l : List TRunwayMove) (s : List TRunwaySpan) (t : TWakeTable) (at_ : Int) : g5 301 l s t at_ = some true := by
  unfold g5
  rw [runway_fact, Option.bind_some]
  rcases change_tot 301 (by decide) l s at_ with ⟨z, hz, e⟩ | ⟨e, hm, hs, hlen, he, a0, a1, hf, hall, hc⟩
  · rw [e]
    simp only [Option.bind_some, Bool.not_true, cond_false]
    rw [bne0 hz]; rfl
  rw [hc]
  simp only [Option.bind_some, Bool.not_true, cond_false, bne_self_eq_false]
  have hp := hs.pos
  rw [beq_f (show (s.length : Int) ≠ 0 by omega), cond_false]
  have hu := hs.snoc he hlen a0 a1 hf
  have hne : s ≠ [] := by intro h; rw [h] at hp; exact absurd hp (by decide)
  have hsame : g19 301 l s t = g19 301 l (s ++ [⟨at_, 1 - e.End⟩]) t := by
    refine safe_same 301 l s _ t ?_ (fun x hx => ?_)
    · obtain ⟨z1, e1, -, h1⟩ := spans_tot 301 (by decide) s
      obtain ⟨z2, e2, -, h2⟩ := spans_tot 301 (by decide) (s ++ [⟨at_, 1 - e.End⟩])
      rw [e1, e2, h1 hs, h2 hu]
    · have w := hm.each x hx
      rw [dir_eq 301 (by decide) s hs.len hs.pos (fun x hx => (hs.mem hx).2) x.Time w.1 w.2.1, dir_eq 301 (by decide) _ hu.len hu.pos (fun x hx => (hu.mem hx).2) x.Time w.1 w.2.1, dirO_before _ _ _ hne (hall x hx)]
  obtain ⟨q, hq⟩ := safe_tot 301 (by decide) l s t hs
  rw [← hsame, hq]
  simp only [Option.bind_some, bne_self_eq_false, cond_false]
  rw [turn_dir 301 (by decide) _ hu at_ a0 a1, dirO_at at_ ⟨at_, 1 - e.End⟩ s hne rfl]
  rw [wrap64 (z := at_ + 180) (by omega) (by omega)]
  by_cases h2 : at_ + 180 > 200000
  · rw [decide_eq_true h2]; rfl
  rw [decide_eq_false h2]
  rw [turn_dir 301 (by decide) _ hu (at_ + 180) (by omega) (by omega), dirO_after (at_ + 180) ⟨at_, 1 - e.End⟩ s hne rfl (fun x hx => by
    obtain ⟨i, hi, rfl⟩ := List.getElem_of_mem hx
    have := hs.le_last (s.length - 1 - i) i _ (by omega) he (List.getElem?_eq_getElem hi)
    show _ ≤ at_
    omega)]
  obtain ⟨ee, -⟩ := hs.one he
  have hg : getI s (IntKind.wrap .i64 ((s.length : Int) - 1)) = some e := by
    have := hs.len
    rw [wrap64 (by omega) (by omega), show (s.length : Int) - 1 = ((s.length - 1 : Nat) : Int) by omega]
    exact getI_at he
  simp only [Option.bind_some, cond_false, cond_true, if_true, beq_self_eq_true, Bool.false_eq_true, if_false]
  rw [hg, Option.bind_some, wrap64 (z := 1 - e.End) (by omega) (by omega)]
  simp
end Go.Proofs.Ytfmodgffhbljoaa
