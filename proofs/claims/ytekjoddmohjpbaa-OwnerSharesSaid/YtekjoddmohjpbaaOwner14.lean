/- What an offer, its acceptance and its end do to the table. -/
import Derived.Test.YtekjoddmohjpbaaOwner12
set_option linter.unusedVariables false
set_option linter.unusedSimpArgs false
namespace Go.Proofs.Ytekjoddmohjpbaa
open Go.RowKit
attribute [local go_sem ↓] Go.wp_at_zero Go.wp_at_succ

def goodO (l : List OEntry) (k : Nat) : Prop := badN (el l k) = false ∧ (el l k).off ≠ (el l k).own ∧ ¬ (0 < k ∧ leS (el l k).call (el l (k - 1)).call = true)
theorem osc_zero (l : List OEntry) (n : Nat) : osc l n = 0 ↔ ∀ k, k < n → goodO l k := by
  induction n with
  | zero => exact ⟨fun _ k hk => absurd hk (by omega), fun _ => rfl⟩
  | succ n ih =>
    constructor
    · intro h
      have h0 : osc l n = 0 := by
        by_cases hc : osc l n = 0
        · exact hc
        · rw [osc, if_pos hc] at h; exact absurd h hc
      intro k hk
      rcases Nat.lt_or_ge k n with hk' | hk'
      · exact ih.1 h0 k hk'
      · obtain rfl : k = n := by omega
        rw [osc, if_neg (by omega)] at h
        by_cases hb : badN (el l k) = true
        · rw [if_pos hb] at h; omega
        rw [if_neg hb] at h
        by_cases ho : (el l k).off = (el l k).own
        · rw [if_pos ho] at h; omega
        rw [if_neg ho] at h
        by_cases ht : 0 < k ∧ leS (el l k).call (el l (k - 1)).call = true
        · rw [if_pos ht] at h; omega
        exact ⟨by simpa using hb, ho, ht⟩
    · intro h
      obtain ⟨h1, h2, h3⟩ := h n (by omega)
      exact osc_next (ih.2 fun k hk => h k (by omega)) h1 h2 h3
theorem ochk_zero (l : List OEntry) : ochk l = 0 ↔ l.length ≤ 24 ∧ ∀ k, k < l.length → goodO l k := by
  unfold ochk
  by_cases h : 24 < l.length
  · rw [if_pos h]; exact ⟨fun h' => absurd h' (by decide), fun h' => absurd h'.1 (by omega)⟩
  · rw [if_neg h, osc_zero]; exact ⟨fun h' => ⟨by omega, h'⟩, fun h' => h'.2⟩
theorem call_set {l : List OEntry} {i : Nat} {y : OEntry} (hi : i < l.length) (hc : y.call = (el l i).call) (j : Nat) : (el (l.set i y) j).call = (el l j).call := by
  by_cases h : i = j
  · subst h; rw [el_set_eq hi, hc]
  · rw [el_set_ne h]
theorem ochk_set {l : List OEntry} {i : Nat} {y : OEntry} (h : ochk l = 0) (hi : i < l.length) (hc : y.call = (el l i).call) (hb : badN y = false) (ho : y.off ≠ y.own) : ochk (l.set i y) = 0 := by
  obtain ⟨h1, h2⟩ := (ochk_zero l).1 h
  refine (ochk_zero _).2 ⟨by rw [List.length_set]; exact h1, fun k hk => ?_⟩
  rw [List.length_set] at hk
  obtain ⟨g1, g2, g3⟩ := h2 k hk
  unfold goodO
  rw [call_set hi hc, call_set hi hc]
  by_cases h : i = k
  · subst h; rw [el_set_eq hi]; exact ⟨hb, ho, g3⟩
  · rw [el_set_ne h]; exact ⟨g1, g2, g3⟩
theorem plX_set {l : List OEntry} {i : Nat} {y : OEntry} (hi : i < l.length) (hc : y.call = (el l i).call) (s : ByteArray) : plX (l.set i y) s = plX l s := by
  unfold plX idxP
  rw [List.length_set]
  congr 1
  funext j
  show geS (el (l.set i y) j).call s = geS (el l j).call s
  rw [call_set hi hc]
theorem plN_set {l : List OEntry} {i : Nat} {y : OEntry} (hi : i < l.length) (hc : y.call = (el l i).call) (s : ByteArray) : plN (l.set i y) s = plN l s := by
  unfold plN; rw [plX_set hi hc, List.length_set]
theorem plB_set {l : List OEntry} {i : Nat} {y : OEntry} (hi : i < l.length) (hc : y.call = (el l i).call) (s : ByteArray) : plB (l.set i y) s = plB l s := by
  unfold plB; rw [plN_set hi hc, call_set hi hc, List.length_set]
theorem badN_false {x : OEntry} (h : badN x = false) : nameB x.call = true ∧ nameB x.own = true ∧ (x.off = noS ∨ nameB x.off = true) := by
  unfold badN at h
  simp only [Bool.or_eq_false_iff, Bool.not_eq_false'] at h
  refine ⟨h.1.1, h.1.2, ?_⟩
  by_cases he : x.off = noS
  · exact .inl he
  · right
    have h2 := h.2
    rw [decide_eq_false he] at h2
    simpa using h2
theorem badN_of {x : OEntry} (h1 : nameB x.call = true) (h2 : nameB x.own = true) (h3 : x.off = noS ∨ nameB x.off = true) : badN x = false := by
  unfold badN
  rw [h1, h2]
  rcases h3 with h | h
  · rw [decide_eq_true h]; simp
  · rw [h]; simp
theorem name_ne {s : ByteArray} (h : nameB s = true) : s ≠ noS := by
  rintro rfl; exact absurd h (by decide +kernel)
/- one entry is replaced: what is known before and after -/
structure Swp (l m : List OEntry) (s : ByteArray) (i : Nat) (y : OEntry) : Prop where
  hl : ochk m = 0
  hi : i < m.length
  hn : plN m s = i
  hb : plB m s = true
  he : el m i = y
theorem Swp.set {l m : List OEntry} {s : ByteArray} {i : Nat} {x y : OEntry} (h : Swp l m s i x) (hc : y.call = x.call) (hb : badN y = false) (ho : y.off ≠ y.own) : Swp l (m.set i y) s i y :=
  ⟨ochk_set h.hl h.hi (by rw [h.he, hc]) hb ho, by rw [List.length_set]; exact h.hi, by rw [plN_set h.hi (by rw [h.he, hc]), h.hn], by rw [plB_set h.hi (by rw [h.he, hc]), h.hb], el_set_eq h.hi y⟩
theorem Swp.good {l m : List OEntry} {s : ByteArray} {i : Nat} {x : OEntry} (h : Swp l m s i x) : nameB x.call = true ∧ nameB x.own = true ∧ (x.off = noS ∨ nameB x.off = true) ∧ x.off ≠ x.own := by
  obtain ⟨g1, g2, -⟩ := ((ochk_zero m).1 h.hl).2 i h.hi
  rw [h.he] at g1 g2
  obtain ⟨a, b, c⟩ := badN_false g1
  exact ⟨a, b, c, g2⟩
theorem Swp.of {l m : List OEntry} {s : ByteArray} {i : Nat} {x : OEntry} (h : Swp l m s i x) : ofE m s = 0 ∧ ofV m s = x.own := by
  have h0 : ofE m s = 0 := by unfold ofE; rw [if_neg (by rw [h.hl]; decide), if_pos h.hb]
  exact ⟨h0, by unfold ofV; rw [if_pos h0, h.hn, h.he]⟩
theorem Swp.chE {l m : List OEntry} {s : ByteArray} {i : Nat} {x : OEntry} (h : Swp l m s i x) (er : OEntry → Int) : chE m s er = er x := by
  unfold Go.Proofs.Ytekjoddmohjpbaa.chE; rw [if_neg (by rw [h.hl]; decide), if_pos h.hb, h.hn, h.he]
theorem Swp.chL {l m : List OEntry} {s : ByteArray} {i : Nat} {x : OEntry} (h : Swp l m s i x) (er : OEntry → Int) (up : OEntry → OEntry) (h0 : er x = 0) (hc : (up x).call ≠ noS) : chL m s er up = m.set i (up x) := by
  unfold Go.Proofs.Ytekjoddmohjpbaa.chL; rw [if_neg (by rw [h.chE, h0]; decide), h.hn, h.he, if_neg hc]
theorem swp_of {l : List OEntry} {s : ByteArray} {er : OEntry → Int} (h : chE l s er = 0) : ∃ i x, Swp l l s i x ∧ er x = 0 := by
  unfold chE at h
  by_cases h1 : ochk l = 0
  · rw [if_neg (by rw [h1]; decide)] at h
    by_cases h2 : plB l s = true
    · rw [if_pos h2] at h
      have h3 := h2
      unfold plB at h3
      exact ⟨_, _, ⟨h1, (of_decide_eq_true h3).1, rfl, h2, rfl⟩, h⟩
    · rw [if_neg h2] at h; exact absurd h (by decide)
  · rw [if_pos h1] at h; exact absurd h h1
structure Passes (l : List OEntry) (s by_ to : ByteArray) (m n : List OEntry) : Prop where
  of1 : ofE m s = 0 ∧ ofV m s = by_
  ac : chE m s (fun x => accE x to) = 0
  nn : chL m s (fun x => accE x to) (fun x => accX x to) = n
  of2 : ofE n s = 0 ∧ ofV n s = to
  ot : ∀ o, chE m s (fun x => accE x o) = 0 ↔ o = to
  ca : chE m s (fun x => canE x by_) = 0 ∧ chL m s (fun x => canE x by_) canX = l
  cb : chE m s (fun x => canE x to) = 0 ∧ chL m s (fun x => canE x to) canX = l
theorem EntsOk.set {l : List OEntry} {i : Nat} {y : OEntry} (h : EntsOk l) (hy : y.call.size ≤ maxLen ∧ y.own.size ≤ maxLen ∧ y.off.size ≤ maxLen) : EntsOk (l.set i y) := by
  intro x hx
  rcases List.mem_or_eq_of_mem_set hx with h' | h'
  · exact h x h'
  · subst h'; exact hy
theorem passes_math {l : List OEntry} {s by_ to : ByteArray} (h : chE l s (fun x => ofrE x by_ to) = 0) (hok : EntsOk l) (ht : to.size ≤ maxLen) :
    ∃ m n, chL l s (fun x => ofrE x by_ to) (fun x => ofrX x to) = m ∧ Passes l s by_ to m n ∧ EntsOk m ∧ EntsOk n := by
  obtain ⟨i, x, hS, h0⟩ := swp_of h
  obtain ⟨g1, g2, g3, g4⟩ := hS.good
  have hx := hok _ (el_mem hS.hi)
  rw [hS.he] at hx
  have f1 : x.own = by_ := by
    by_cases hc : x.own = by_
    · exact hc
    · unfold ofrE at h0; rw [if_pos hc] at h0; exact absurd h0 (by decide)
  have f2 : x.off = noS := by
    by_cases hc : x.off = noS
    · exact hc
    · unfold ofrE at h0; rw [if_neg (by simpa using f1), if_pos hc] at h0; exact absurd h0 (by decide)
  have f3 : nameB to = true := by
    cases hc : nameB to
    · unfold ofrE at h0; rw [if_neg (by simpa using f1), if_neg (by simpa using f2), if_pos hc] at h0; exact absurd h0 (by decide)
    · rfl
  have f4 : to ≠ by_ := by
    intro hc
    unfold ofrE at h0; rw [if_neg (by simpa using f1), if_neg (by simpa using f2), if_neg (by rw [f3]; decide), if_pos hc] at h0; exact absurd h0 (by decide)
  have f5 := name_ne f3
  have f6 := name_ne g1
  have hM := hS.chL (fun x => ofrE x by_ to) (fun x => ofrX x to) h0 f6
  have S1 : Swp l (l.set i (ofrX x to)) s i (ofrX x to) := hS.set rfl (badN_of g1 g2 (.inr f3)) (by show to ≠ x.own; rw [f1]; exact f4)
  have e1 : accE (ofrX x to) to = 0 := by unfold accE ofrX; rw [if_neg f5, if_neg (fun h => h rfl)]
  have S2 : Swp l ((l.set i (ofrX x to)).set i (accX (ofrX x to) to)) s i (accX (ofrX x to) to) := S1.set rfl (badN_of g1 f3 (.inl rfl)) (fun h => f5 h.symm)
  have back : canX (ofrX x to) = x := by unfold canX ofrX; rw [← f2]
  have hset : (l.set i (ofrX x to)).set i x = l := by rw [List.set_set, ← hS.he, set_el]
  refine ⟨l.set i (ofrX x to), (l.set i (ofrX x to)).set i (accX (ofrX x to) to), hM, ⟨⟨S1.of.1, S1.of.2.trans f1⟩, (S1.chE _).trans e1, S1.chL _ _ e1 f6, ⟨S2.of.1, S2.of.2⟩, fun o => ?_, ?_, ?_⟩, EntsOk.set (y := ofrX x to) hok ⟨hx.1, hx.2.1, ht⟩, EntsOk.set (y := accX (ofrX x to) to) (EntsOk.set (y := ofrX x to) hok ⟨hx.1, hx.2.1, ht⟩) ⟨hx.1, ht, (show noS.size ≤ maxLen by decide)⟩⟩
  · rw [S1.chE]
    show accE (ofrX x to) o = 0 ↔ o = to
    unfold accE ofrX
    rw [if_neg f5]
    by_cases hc : to = o
    · rw [if_neg (fun h => h hc)]; exact ⟨fun _ => hc.symm, fun _ => rfl⟩
    · rw [if_pos hc]; exact ⟨fun h => absurd h (by decide), fun h => absurd h.symm hc⟩
  · have e2 : canE (ofrX x to) by_ = 0 := by unfold canE ofrX; rw [if_neg f5, if_neg (fun h => h.2 f1)]
    exact ⟨(S1.chE _).trans e2, by rw [S1.chL _ _ e2 (by rw [back]; exact f6), back, hset]⟩
  · have e2 : canE (ofrX x to) to = 0 := by unfold canE ofrX; rw [if_neg f5, if_neg (fun h => h.1 rfl)]
    exact ⟨(S1.chE _).trans e2, by rw [S1.chL _ _ e2 (by rw [back]; exact f6), back, hset]⟩

end Go.Proofs.Ytekjoddmohjpbaa
