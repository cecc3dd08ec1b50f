/- What task.walk visits, as a list; refutations cover all choices, each in its turn. -/
import Derived.Test.YtlgbioidkbeanaaX1G
import Derived.Test.YtlgbioidkbeanaaMath2
set_option linter.unusedVariables false
set_option linter.unusedSimpArgs false
namespace Go.Proofs.Ytlgbioidkbeanaa

abbrev Ev := List Int × Option Int
def ev (l : List (List TJointOption)) (cl : Nat → Nat → Nat → Nat → Bool) : Nat → List Int → List Ev
  | 0, c => if c ≠ [] ∧ 0 ≤ withF cl c then [(c, some (withF cl c))] else [(c, none)]
  | k + 1, c => if c ≠ [] ∧ 0 ≤ withF cl c then [(c, some (withF cl c))] else (List.range (l.getD c.length []).length).flatMap fun (i : Nat) => ev l cl k (c ++ [((i : Nat) : Int)])
theorem foldlM_flatMap {α β σ : Type} (f : σ → β → Option σ) (g : α → List β) : ∀ (L : List α) (s : σ), (L.flatMap g).foldlM f s = L.foldlM (fun s a => (g a).foldlM f s) s
  | [], s => rfl
  | a :: L, s => by
    rw [List.flatMap_cons, List.foldlM_append, List.foldlM_cons]
    congr 1
    funext t
    exact foldlM_flatMap f g L t
theorem wlk_ev {σ : Type} (l : List (List TJointOption)) (cl : Nat → Nat → Nat → Nat → Bool) (free : σ → List Int → Option σ) (ref : σ → List Int → Int → Option σ) : ∀ (k : Nat) (c : List Int) (s : σ), wlk l cl free ref k c s = (ev l cl k c).foldlM (fun s (e : Ev) => match e.2 with | none => free s e.1 | some i => ref s e.1 i) s
  | 0, c, s => by
    unfold wlk ev
    by_cases h : c ≠ [] ∧ 0 ≤ withF cl c
    · rw [if_pos h, if_pos h, List.foldlM_cons]; simp
    · rw [if_neg h, if_neg h, List.foldlM_cons]; simp
  | k + 1, c, s => by
    unfold wlk ev
    by_cases h : c ≠ [] ∧ 0 ≤ withF cl c
    · rw [if_pos h, if_pos h, List.foldlM_cons]; simp
    · rw [if_neg h, if_neg h, foldlM_flatMap]
      congr 1
      funext t i
      exact wlk_ev l cl free ref k (c ++ [((i : Nat) : Int)]) t
/- a choice of options of the first flights -/
def Cho (l : List (List TJointOption)) (c : List Int) : Prop := c.length ≤ l.length ∧ ∀ (j : Nat) (x : Int), c[j]? = some x → 0 ≤ x ∧ x < ((l.getD j []).length : Int)
theorem Cho.snoc {l : List (List TJointOption)} {c : List Int} (h : Cho l c) {j : Nat} (hl : c.length < l.length) (hj : j < (l.getD c.length []).length) : Cho l (c ++ [(j : Int)]) := by
  refine ⟨by simp; omega, fun i x hx => ?_⟩
  rcases Nat.lt_or_ge i c.length with q | q
  · rw [List.getElem?_append_left q] at hx
    exact h.2 i x hx
  · rw [List.getElem?_append_right q] at hx
    have h0 : i - c.length = 0 := by
      rcases Nat.eq_zero_or_pos (i - c.length) with e | e
      · exact e
      · rw [List.getElem?_eq_none (by simp; omega)] at hx; cases hx
    rw [h0] at hx
    simp at hx
    subst hx
    obtain rfl : i = c.length := by omega
    omega
/- no two of a choice clash -/
def Clear (cl : Nat → Nat → Nat → Nat → Bool) (c : List Int) : Prop := ∀ i k : Nat, i < k → k < c.length → cl i k (c.getD i 0).toNat (c.getD k 0).toNat = false
theorem with_neg {cl : Nat → Nat → Nat → Nat → Bool} {c : List Int} (h : ¬ (c ≠ [] ∧ 0 ≤ withF cl c)) : ∀ i, i < c.length - 1 → cl i (c.length - 1) (c.getD i 0).toNat (c.getD (c.length - 1) 0).toNat = false := by
  intro i hi
  have hne : c ≠ [] := by rintro rfl; simp at hi
  have hw : ¬ 0 ≤ withF cl c := fun q => h ⟨hne, q⟩
  unfold withF at hw
  cases hf : (List.range (c.length - 1)).find? (fun i => cl i (c.length - 1) (c.getD i 0).toNat (c.getD (c.length - 1) 0).toNat) with
  | some j => rw [hf] at hw; simp at hw
  | none =>
    have := List.find?_eq_none.1 hf i (List.mem_range.2 hi)
    simpa using this
theorem with_pos {cl : Nat → Nat → Nat → Nat → Bool} {c : List Int} (h : 0 ≤ withF cl c) : withF cl c < (c.length : Int) - 1 ∧ cl (withF cl c).toNat (c.length - 1) (c.getD (withF cl c).toNat 0).toNat (c.getD (c.length - 1) 0).toNat = true := by
  unfold withF at h ⊢
  cases hf : (List.range (c.length - 1)).find? (fun i => cl i (c.length - 1) (c.getD i 0).toNat (c.getD (c.length - 1) 0).toNat) with
  | none => rw [hf] at h; simp at h
  | some j =>
    have h1 := List.find?_some hf
    have h2 := List.mem_range.1 (List.mem_of_find?_eq_some hf)
    simp only
    refine ⟨by omega, ?_⟩
    rw [Int.toNat_natCast]
    exact h1
theorem clear_snoc {cl : Nat → Nat → Nat → Nat → Bool} {c : List Int} {x : Int} (h : Clear cl c) (hw : ¬ (c ++ [x] ≠ [] ∧ 0 ≤ withF cl (c ++ [x]))) : Clear cl (c ++ [x]) := by
  intro i k hik hk
  simp only [List.length_append, List.length_cons, List.length_nil] at hk
  rcases Nat.lt_or_ge k c.length with q | q
  · have e1 : (c ++ [x]).getD i 0 = c.getD i 0 := by simp [List.getD, List.getElem?_append_left (show i < c.length by omega)]
    have e2 : (c ++ [x]).getD k 0 = c.getD k 0 := by simp [List.getD, List.getElem?_append_left q]
    rw [e1, e2]
    exact h i k hik q
  · have := with_neg hw i (by simp; omega)
    have e : (c ++ [x]).length - 1 = k := by simp; omega
    rw [e] at this
    exact this
/- each event: a clear choice of all, or a refuted beginning -/
def EvOk (l : List (List TJointOption)) (cl : Nat → Nat → Nat → Nat → Bool) (c : List Int) (e : Ev) : Prop := (∃ t, e.1 = c ++ t) ∧ Cho l e.1 ∧ (match e.2 with | none => e.1.length = l.length ∧ Clear cl e.1 | some i => goodF l cl ⟨e.1, i⟩ = true ∧ i = withF cl e.1)
theorem good_of {l : List (List TJointOption)} {cl : Nat → Nat → Nat → Nat → Bool} {c : List Int} (hc : Cho l c) (h : c ≠ [] ∧ 0 ≤ withF cl c) : goodF l cl ⟨c, withF cl c⟩ = true := by
  obtain ⟨h1, h2⟩ := with_pos h.2
  have h3 := h.2
  have hlen : 0 < c.length := List.length_pos_iff.2 h.1
  unfold goodF
  simp only [Bool.and_eq_true, decide_eq_true_eq, List.all_eq_true, List.mem_range]
  refine ⟨⟨⟨⟨⟨by omega, hc.1⟩, h3⟩, h1⟩, fun i hi => ?_⟩, h2⟩
  have hx : c[i]? = some c[i] := List.getElem?_eq_getElem hi
  have := hc.2 i _ hx
  rw [show c.getD i 0 = c[i] by simp [List.getD, hx]]
  exact this
theorem ev_ok {l : List (List TJointOption)} {cl : Nat → Nat → Nat → Nat → Bool} : ∀ (k : Nat) (c : List Int), c.length + k = l.length → Cho l c → (c = [] ∨ ∃ b x, c = b ++ [x] ∧ Clear cl b) → ∀ e ∈ ev l cl k c, EvOk l cl c e
  | 0, c, hk, hc, hp, e, he => by
    unfold ev at he
    by_cases h : c ≠ [] ∧ 0 ≤ withF cl c
    · rw [if_pos h] at he
      obtain rfl := List.mem_singleton.1 he
      exact ⟨⟨[], by simp⟩, hc, good_of hc h, rfl⟩
    · rw [if_neg h] at he
      obtain rfl := List.mem_singleton.1 he
      refine ⟨⟨[], by simp⟩, hc, by simpa using hk, ?_⟩
      rcases hp with rfl | ⟨b, x, rfl, hb⟩
      · exact fun i k _ hk => by simp at hk
      · exact clear_snoc hb h
  | k + 1, c, hk, hc, hp, e, he => by
    unfold ev at he
    by_cases h : c ≠ [] ∧ 0 ≤ withF cl c
    · rw [if_pos h] at he
      obtain rfl := List.mem_singleton.1 he
      exact ⟨⟨[], by simp⟩, hc, good_of hc h, rfl⟩
    · rw [if_neg h] at he
      obtain ⟨i, hi, he⟩ := List.mem_flatMap.1 he
      have hcl : Clear cl c := by
        rcases hp with rfl | ⟨b, x, rfl, hb⟩
        · exact fun i k _ hk => by simp at hk
        · exact clear_snoc hb h
      obtain ⟨⟨t, ht⟩, h2⟩ := ev_ok k (c ++ [((i : Nat) : Int)]) (by simp; omega) (hc.snoc (by omega) (List.mem_range.1 hi)) (.inr ⟨c, _, rfl, hcl⟩) e he
      exact ⟨⟨((i : Nat) : Int) :: t, by rw [ht]; simp⟩, h2⟩
/- which comes before which -/
def Before (a b : List Int) : Prop := ∃ p x y s t, a = p ++ x :: s ∧ b = p ++ y :: t ∧ x < y
theorem ev_sorted {l : List (List TJointOption)} {cl : Nat → Nat → Nat → Nat → Bool} : ∀ (k : Nat) (c : List Int), (∀ e ∈ ev l cl k c, ∃ t, e.1 = c ++ t) ∧ (ev l cl k c).Pairwise (fun a b => Before a.1 b.1)
  | 0, c => by
    unfold ev
    by_cases h : c ≠ [] ∧ 0 ≤ withF cl c
    · rw [if_pos h]; exact ⟨fun e he => ⟨[], by rw [List.mem_singleton.1 he]; simp⟩, List.pairwise_singleton _ _⟩
    · rw [if_neg h]; exact ⟨fun e he => ⟨[], by rw [List.mem_singleton.1 he]; simp⟩, List.pairwise_singleton _ _⟩
  | k + 1, c => by
    unfold ev
    by_cases h : c ≠ [] ∧ 0 ≤ withF cl c
    · rw [if_pos h]; exact ⟨fun e he => ⟨[], by rw [List.mem_singleton.1 he]; simp⟩, List.pairwise_singleton _ _⟩
    · rw [if_neg h]
      refine ⟨fun e he => ?_, ?_⟩
      · obtain ⟨i, hi, he⟩ := List.mem_flatMap.1 he
        obtain ⟨t, ht⟩ := (ev_sorted k (c ++ [((i : Nat) : Int)])).1 e he
        exact ⟨((i : Nat) : Int) :: t, by rw [ht]; simp⟩
      · generalize (l.getD c.length []).length = N
        rw [List.pairwise_flatMap]
        refine ⟨fun i hi => (ev_sorted k _).2, ?_⟩
        refine List.pairwise_lt_range.imp (fun {i j} hij a ha b hb => ?_)
        obtain ⟨s, hs⟩ := (ev_sorted k (c ++ [((i : Nat) : Int)])).1 a ha
        obtain ⟨t, ht⟩ := (ev_sorted k (c ++ [((j : Nat) : Int)])).1 b hb
        exact ⟨c, (i : Int), (j : Int), s, t, by rw [hs]; simp, by rw [ht]; simp, by omega⟩
/- how many choices are left below a beginning -/
def prodL : List (List TJointOption) → Nat
  | [] => 1
  | o :: l => o.length * prodL l
def wgt (l : List (List TJointOption)) (e : Ev) : Nat := match e.2 with
  | none => 1
  | some _ => prodL (l.drop e.1.length)
theorem sum_const (N P : Nat) (g : Nat → List Ev) (w : Ev → Nat) (h : ∀ i, i < N → ((g i).map w).sum = P) : (((List.range N).flatMap g).map w).sum = N * P := by
  induction N with
  | zero => simp
  | succ N ih =>
    rw [List.range_succ, List.flatMap_append, List.map_append, List.sum_append, ih (fun i hi => h i (by omega))]
    simp only [List.flatMap_cons, List.flatMap_nil, List.append_nil]
    rw [h N (by omega), Nat.succ_mul]
theorem ev_count {l : List (List TJointOption)} {cl : Nat → Nat → Nat → Nat → Bool} : ∀ (k : Nat) (c : List Int), c.length + k = l.length → ((ev l cl k c).map (wgt l)).sum = prodL (l.drop c.length)
  | 0, c, hk => by
    unfold ev
    have e : l.drop c.length = [] := List.drop_eq_nil_of_le (by omega)
    by_cases h : c ≠ [] ∧ 0 ≤ withF cl c
    · rw [if_pos h]; simp [wgt]
    · rw [if_neg h, e]; simp [wgt, prodL]
  | k + 1, c, hk => by
    unfold ev
    by_cases h : c ≠ [] ∧ 0 ≤ withF cl c
    · rw [if_pos h]; simp [wgt]
    · rw [if_neg h]
      have hlt : c.length < l.length := by omega
      have e : l.drop c.length = l[c.length] :: l.drop (c.length + 1) := List.drop_eq_getElem_cons hlt
      rw [sum_const _ (prodL (l.drop (c.length + 1))) (fun (i : Nat) => ev l cl k (c ++ [(i : Int)])) (wgt l) (fun i hi => ?_), e]
      · simp [prodL, List.getD, hlt]
      · have := ev_count (l := l) (cl := cl) k (c ++ [((i : Nat) : Int)]) (by simp; omega)
        rw [this]; simp
end Go.Proofs.Ytlgbioidkbeanaa
