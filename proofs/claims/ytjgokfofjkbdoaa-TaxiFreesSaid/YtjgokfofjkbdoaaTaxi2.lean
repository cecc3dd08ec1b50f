/- taxi.Most; at no time more departures wait than it returns. -/
import Derived.Test.YtjgokfofjkbdoaaTaxi1
set_option linter.unusedVariables false
set_option linter.unusedSimpArgs false
namespace Go.Proofs.Ytjgokfofjkbdoaa

def better (l : List TMove) (m : TMove) (p : Int × Int) : Bool := decide ((waitN l m.hold : Int) > p.1) || (((waitN l m.hold : Int) == p.1) && (decide ((waitN l m.hold : Int) > 0) && decide (m.hold < p.2)))
def mostStep (l : List TMove) (p : Int × Int) (m : TMove) : Int × Int := if better l m p then (waitN l m.hold, m.hold) else p
def mostOf (l k : List TMove) : Int × Int := k.foldl (mostStep l) (0, 0)
theorem mostOf_take (l : List TMove) (i : Nat) (h : i < l.length) : mostOf l (l.take (i + 1)) = mostStep l (mostOf l (l.take i)) l[i] := by
  unfold mostOf
  rw [List.take_succ_eq_append_getElem h, List.foldl_append]; rfl
theorem most_says (l : List TMove) (hl : l.length ≤ 9223372036854775807) : Says Try.prog KK.gl 8 [lstA moveE l] (.tup [intA (mostOf l l).1, intA (mostOf l l).2]) := by
  refine says_of_own (by simp [cleans, clean, encs_clean]) rfl (F8_own _ _ ?_)
  unfold F8
  simp only [lenS_lst, opP_some, ex_i64_sc]
  refine L8_0 _ (σ := Nat) (fun i => i ≤ l.length) (fun _ => lstA moveE l) (fun _ => 0) (fun _ => 0) (fun i => (mostOf l (l.take i)).1) (fun i => (mostOf l (l.take i)).2) (fun _ => lstA moveE l) (fun _ => l.length) (fun i => i) (fun _ => []) (fun i => l.length - i) ?_ 0 (Nat.zero_le _) (weak_of rfl ?_)
  · intro i hi
    unfold B8_0
    refine cond_of (fun h => ?_) (fun h => ?_)
    · have h : i < l.length := by simpa using h
      have hw := mostOf_take l i h
      have e1 : IntKind.wrap .i64 ((i : Int) + 1) = ((i + 1 : Nat) : Int) := wrap64 (by omega) (by omega)
      have hx : idxS 4 (lstA moveE l) (intA i) = some (.ept (moveE.enc l[i]) 0, []) := idxS_lst (E := moveE) rfl l false i h
      simp only [hx, opP_some, ldA_el (E := moveE) rfl, moveE_enc, exA4_agg, exStr_sc, ex_i64_sc, e1]
      refine callQ_says (waiting_says l _ hl) ?_
      simp only [ex_i64_sc]
      have fin : ∀ p, mostOf l (l.take (i + 1)) = p → ∀ {s : St}, okE s.e (h8_0 (lstA moveE l) 0 0 p.1 p.2 (lstA moveE l) l.length ((i + 1 : Nat) : Int) []).e → ∃ y, y ≤ l.length ∧ l.length - y < l.length - i ∧ Weak KK 43 0 s (h8_0 (lstA moveE l) 0 0 (mostOf l (l.take y)).1 (mostOf l (l.take y)).2 (lstA moveE l) l.length (y : Int) []) := by
        intro p hp s hs
        refine ⟨i + 1, h, by omega, ?_⟩
        rw [hp]
        exact weak_of rfl hs
      refine cond_of (fun h1 => ?_) (fun h1 => cond_of (fun h2 => cond_of (fun h3 => cond_of (fun h4 => ?_) (fun h4 => ?_)) (fun h3 => ?_)) (fun h2 => ?_))
      · refine fin (waitN l l[i].hold, l[i].hold) (by rw [hw, mostStep, if_pos (by simp [better, h1])]) ?_
        repeat first | exact trivial | refine okE_cons rfl rfl ?_ | refine okE_cons rfl (lst_clean _) ?_
      · refine fin (waitN l l[i].hold, l[i].hold) (by rw [hw, mostStep, if_pos (by simp only [better, h2, h3, h4]; simp)]) ?_
        repeat first | exact trivial | refine okE_cons rfl rfl ?_ | refine okE_cons rfl (lst_clean _) ?_
      · refine fin (mostOf l (l.take i)) (by rw [hw, mostStep, if_neg (by simp only [better, h1, h2, h3, h4]; simp)]) ?_
        repeat first | exact trivial | refine okE_cons rfl rfl ?_ | refine okE_cons rfl (lst_clean _) ?_
      · refine fin (mostOf l (l.take i)) (by rw [hw, mostStep, if_neg (by simp only [better, h1, h2, h3]; simp)]) ?_
        repeat first | exact trivial | refine okE_cons rfl rfl ?_ | refine okE_cons rfl (lst_clean _) ?_
      · refine fin (mostOf l (l.take i)) (by rw [hw, mostStep, if_neg (by simp only [better, h1, h2]; simp)]) ?_
        repeat first | exact trivial | refine okE_cons rfl rfl ?_ | refine okE_cons rfl (lst_clean _) ?_
    · have h : i = l.length := by simp at h; omega
      subst h
      rw [List.take_length]
      rfl
  · repeat first | exact trivial | refine okE_cons rfl rfl ?_ | refine okE_cons rfl (lst_clean _) ?_

/- the law -/
theorem mostOf_inv (l : List TMove) : ∀ k : List TMove, (∀ m ∈ k, m ∈ l) → ∀ p : Int × Int, 0 ≤ p.1 → (p = (0, 0) ∨ ∃ m ∈ l, p = ((waitN l m.hold : Int), m.hold)) →
    0 ≤ (k.foldl (mostStep l) p).1 ∧ p.1 ≤ (k.foldl (mostStep l) p).1 ∧ (∀ m ∈ k, (waitN l m.hold : Int) ≤ (k.foldl (mostStep l) p).1) ∧ ((k.foldl (mostStep l) p) = (0, 0) ∨ ∃ m ∈ l, (k.foldl (mostStep l) p) = ((waitN l m.hold : Int), m.hold))
  | [], _, p, h0, hp => ⟨h0, Int.le_refl _, fun m hm => by simp at hm, hp⟩
  | m :: k, hk, p, h0, hp => by
    have hm : m ∈ l := hk m (by simp)
    simp only [List.foldl_cons]
    have st : p.1 ≤ (mostStep l p m).1 ∧ (waitN l m.hold : Int) ≤ (mostStep l p m).1 ∧ (mostStep l p m = (0, 0) ∨ ∃ x ∈ l, mostStep l p m = ((waitN l x.hold : Int), x.hold)) := by
      unfold mostStep
      by_cases hb : better l m p = true
      · rw [if_pos hb]
        refine ⟨?_, Int.le_refl _, .inr ⟨m, hm, rfl⟩⟩
        unfold better at hb
        simp at hb
        show p.1 ≤ (waitN l m.hold : Int)
        omega
      · rw [if_neg hb]
        refine ⟨Int.le_refl _, ?_, hp⟩
        unfold better at hb
        simp at hb
        omega
    obtain ⟨q1, q2, q3, q4⟩ := mostOf_inv l k (fun x hx => hk x (by simp [hx])) (mostStep l p m) (by omega) st.2.2
    refine ⟨q1, by omega, fun x hx => ?_, q4⟩
    rcases List.mem_cons.1 hx with rfl | hx
    · omega
    · exact q3 x hx
/- some departure begins to wait when all of those wait -/
theorem waitN_hold (l : List TMove) (t : Int) (h : 0 < waitN l t) : ∃ m ∈ l, waitN l t ≤ waitN l m.hold := by
  have key : ∀ k : List TMove, (∃ m ∈ k, waits t m = true) → ∃ m ∈ k, waits t m = true ∧ ∀ x ∈ k, waits t x = true → x.hold ≤ m.hold := by
    intro k
    induction k with
    | nil => rintro ⟨m, hm, -⟩; simp at hm
    | cons y k ih =>
      rintro ⟨m, hm, hw⟩
      by_cases hk : ∃ m ∈ k, waits t m = true
      · obtain ⟨m', hm', hw', hmax⟩ := ih hk
        by_cases hy : waits t y = true ∧ m'.hold < y.hold
        · refine ⟨y, by simp, hy.1, fun x hx hxw => ?_⟩
          rcases List.mem_cons.1 hx with rfl | hx
          · exact Int.le_refl _
          · have := hmax x hx hxw; omega
        · refine ⟨m', by simp [hm'], hw', fun x hx hxw => ?_⟩
          rcases List.mem_cons.1 hx with rfl | hx
          · rcases Int.lt_or_le m'.hold x.hold with h | h
            · exact absurd ⟨hxw, h⟩ hy
            · exact h
          · exact hmax x hx hxw
      · rcases List.mem_cons.1 hm with rfl | hm
        · refine ⟨m, by simp, hw, fun x hx hxw => ?_⟩
          rcases List.mem_cons.1 hx with rfl | hx
          · exact Int.le_refl _
          · exact absurd ⟨x, hx, hxw⟩ hk
        · exact absurd ⟨m, hm, hw⟩ hk
  obtain ⟨m, hm, hw, hmax⟩ := key l (by
    unfold waitN at h
    rw [List.countP_pos_iff] at h
    obtain ⟨m, hm, hw⟩ := h
    exact ⟨m, hm, hw⟩)
  refine ⟨m, hm, ?_⟩
  unfold waitN
  refine List.countP_mono_left fun x hx hxw => ?_
  have := hmax x hx hxw
  simp only [waits, Bool.and_eq_true, decide_eq_true_eq] at hxw hw ⊢
  omega
theorem most_law (l : List TMove) (t : Int) : (waitN l t : Int) ≤ (mostOf l l).1 ∧ 0 ≤ (mostOf l l).1 ∧ ((mostOf l l) = (0, 0) ∨ (waitN l (mostOf l l).2 : Int) = (mostOf l l).1) := by
  obtain ⟨q1, -, q3, q4⟩ := mostOf_inv l l (fun m hm => hm) (0, 0) (Int.le_refl _) (.inl rfl)
  refine ⟨?_, q1, ?_⟩
  · rcases Nat.eq_zero_or_pos (waitN l t) with h | h
    · rw [h]; exact q1
    · obtain ⟨m, hm, hle⟩ := waitN_hold l t h
      have := q3 m hm
      unfold mostOf
      omega
  · rcases q4 with h | ⟨m, hm, h⟩
    · exact .inl h
    · right
      show (waitN l (l.foldl (mostStep l) (0, 0)).2 : Int) = (l.foldl (mostStep l) (0, 0)).1
      rw [h]
def KF : Cfg := ⟨fun _ => false, glb⟩
theorem taxiFact_says : Says Try.prog KK.gl 5 [] (boolA true) := says_of_evals (K := KF) fol (k := 60) (by decide +kernel)
theorem frees_says (l : List TMove) (t : Int) (hl : l.length ≤ 9223372036854775807) : Says Try.prog KK.gl 4 [lstA moveE l, intA t] (boolA true) := by
  refine says_of_own (by simp [cleans, clean, encs_clean]) rfl (F4_own _ _ _ ?_)
  obtain ⟨h1, h2, h3⟩ := most_law l t
  unfold F4
  refine callQ_says taxiFact_says ?_
  simp only [exB_sc, Bool.not_true, cond_false, lenS_lst, opP_some, ex_i64_sc]
  refine cond_of (fun h => rfl) (fun h => ?_)
  refine callQ_says (most_says l hl) ?_
  simp only [exT2_tup, ex_i64_sc]
  refine callQ_says (waiting_says l t hl) ?_
  simp only [ex_i64_sc]
  refine cond_of (fun h => ?_) (fun h => ?_)
  · simp at h; omega
  refine cond_of (fun h => ?_) (fun h => ?_)
  · simp at h; omega
  refine cond_of (fun h4 => cond_of (fun h5 => rfl) (fun h5 => ?_)) (fun h4 => ?_)
  · refine callQ_says (waiting_says l _ hl) ?_
    simp only [ex_i64_sc]
    have : ((waitN l (mostOf l l).2 : Int) == (mostOf l l).1) = true := by
      rcases h3 with h | h
      · rw [h] at h5; simp at h5
      · simpa using h
    rw [this]; rfl
  · refine callQ_says (waiting_says l _ hl) ?_
    simp only [ex_i64_sc]
    have : ((waitN l (mostOf l l).2 : Int) == (mostOf l l).1) = true := by
      rcases h3 with h | h
      · rw [h] at h4; simp at h4
      · simpa using h
    rw [this]; rfl
end Go.Proofs.Ytjgokfofjkbdoaa
