/- Loads: peaks, and times over a capacity: plain lists. -/
import Derived.Test.YtldiackagnjlgaaGreatTab9
import Derived.Test.YtldiackagnjlgaaGreatX1G
set_option linter.unusedVariables false
set_option linter.unusedSimpArgs false
namespace Go.Proofs.YtldiackagnjlgaaGreat


section
variable (c : Int → Nat → Int) (M : Nat → Int) (m : Nat) (F : Int)
def pkU (t : Int) (w : Nat) (s : (Nat → Int) × (Nat → Int)) : (Nat → Int) × (Nat → Int) :=
  (fun i => if i < w ∧ c t i > s.1 i then c t i else s.1 i, fun i => if i < w ∧ c t i > s.1 i then t else s.2 i)
def pk : Nat → (Nat → Int) × (Nat → Int)
  | 0 => (fun _ => 0, fun _ => F)
  | k + 1 => pkU c (F + (k : Int)) m (pk k)
/- the peak f of a sector, first at g -/
structure PkI (T f g : Int) (i : Nat) : Prop where
  lo : 0 ≤ f
  all : ∀ t, F ≤ t → t < T → c t i ≤ f
  at_ : (f = 0 ∧ g = F) ∨ (F ≤ g ∧ g < T ∧ c g i = f)
  pre : ∀ t, F ≤ t → t < g → c t i < f
theorem pkU_zero (t : Int) (s : (Nat → Int) × (Nat → Int)) : pkU c t 0 s = s := by
  unfold pkU
  simp
theorem pk_inv : ∀ (k i : Nat), i < m → PkI c F (F + (k : Int)) ((pk c m F k).1 i) ((pk c m F k).2 i) i
  | 0, i, _ => ⟨Int.le_refl _, fun t h1 h2 => by omega, .inl ⟨rfl, rfl⟩, fun t h1 h2 => by have h2 : t < F := h2; omega⟩
  | k + 1, i, hi => by
    have h := pk_inv k i hi
    show PkI c F (F + ((k + 1 : Nat) : Int)) ((pkU c (F + (k : Int)) m (pk c m F k)).1 i) ((pkU c (F + (k : Int)) m (pk c m F k)).2 i) i
    unfold pkU
    simp only
    generalize (pk c m F k).1 i = f at h
    generalize (pk c m F k).2 i = g at h
    obtain ⟨h1, h2, h3, h4⟩ := h
    by_cases hq : c (F + (k : Int)) i > f
    · rw [if_pos ⟨hi, hq⟩, if_pos ⟨hi, hq⟩]
      refine ⟨by omega, fun t k1 k2 => ?_, .inr ⟨by omega, by omega, rfl⟩, fun t k1 k2 => by have := h2 t k1 k2; omega⟩
      by_cases e : t = F + (k : Int)
      · subst e; exact Int.le_refl _
      · have := h2 t k1 (by omega); omega
    · rw [if_neg (fun hh => hq hh.2), if_neg (fun hh => hq hh.2)]
      refine ⟨h1, fun t k1 k2 => ?_, ?_, h4⟩
      · by_cases e : t = F + (k : Int)
        · subst e; omega
        · exact h2 t k1 (by omega)
      · rcases h3 with h3 | ⟨k1, k2, k3⟩
        · exact .inl h3
        · exact .inr ⟨k1, by omega, k3⟩
/- times over a capacity -/
def keyO (e : TLoadOver) : Int × Int := (e.From, e.Sector)
def klt (a b : Int × Int) : Prop := a.1 < b.1 ∨ a.1 = b.1 ∧ a.2 < b.2
def ovS (t : Int) (i : Nat) (s : List TLoadOver × (Nat → Int)) : List TLoadOver × (Nat → Int) :=
  if c t i ≤ M i then (s.1, fun j => if j = i then -1 else s.2 j)
  else if 0 ≤ s.2 i then ((match s.1[(s.2 i).toNat]? with | some e => s.1.set (s.2 i).toNat ⟨e.Sector, e.From, t⟩ | none => s.1), s.2)
  else (s.1 ++ [⟨(i : Int), t, t⟩], fun j => if j = i then (s.1.length : Int) else s.2 j)
def ovR (t : Int) : Nat → List TLoadOver × (Nat → Int) → List TLoadOver × (Nat → Int)
  | 0, s => s
  | w + 1, s => ovS c M t w (ovR t w s)
def ov : Nat → List TLoadOver × (Nat → Int)
  | 0 => ([], fun _ => -1)
  | k + 1 => ovR c M (F + (k : Int)) m (ov k)
/- after the sectors below w at time t -/
structure OvA (t : Int) (w : Nat) (s : List TLoadOver × (Nat → Int)) : Prop where
  op : ∀ i, s.2 i = -1 ∨ (0 ≤ s.2 i ∧ s.2 i < (s.1.length : Int))
  len : (s.1.length : Int) ≤ 12 * (t - F) + (w : Int)
theorem ovA_step {t : Int} {w : Nat} {s : List TLoadOver × (Nat → Int)} (h : OvA F t w s) : OvA F t (w + 1) (ovS c M t w s) := by
  obtain ⟨h1, h2⟩ := h
  unfold ovS
  by_cases hc : c t w ≤ M w
  · rw [if_pos hc]
    refine ⟨fun i => ?_, by show (s.1.length : Int) ≤ _; omega⟩
    show (if i = w then (-1 : Int) else s.2 i) = -1 ∨ _
    by_cases e : i = w
    · rw [if_pos e]; exact .inl rfl
    · show (if i = w then (-1 : Int) else s.2 i) = -1 ∨ (0 ≤ (if i = w then (-1 : Int) else s.2 i) ∧ (if i = w then (-1 : Int) else s.2 i) < (s.1.length : Int))
      rw [if_neg e]; exact h1 i
  · rw [if_neg hc]
    by_cases ho : 0 ≤ s.2 w
    · rw [if_pos ho]
      have hl : (match s.1[(s.2 w).toNat]? with | some e => s.1.set (s.2 w).toNat ⟨e.Sector, e.From, t⟩ | none => s.1).length = s.1.length := by
        split <;> simp
      exact ⟨fun i => by show s.2 i = -1 ∨ (0 ≤ s.2 i ∧ s.2 i < _); rw [hl]; exact h1 i, by show ((_ : Nat) : Int) ≤ _; rw [hl]; omega⟩
    · rw [if_neg ho]
      refine ⟨fun i => ?_, by show (((s.1 ++ [_]).length : Nat) : Int) ≤ _; rw [List.length_append, List.length_singleton]; omega⟩
      show (if i = w then (s.1.length : Int) else s.2 i) = -1 ∨ (0 ≤ (if i = w then (s.1.length : Int) else s.2 i) ∧ (if i = w then (s.1.length : Int) else s.2 i) < (((s.1 ++ [_]).length : Nat) : Int))
      rw [List.length_append, List.length_singleton]
      by_cases e : i = w
      · rw [if_pos e]; exact .inr ⟨by omega, by omega⟩
      · rw [if_neg e]; rcases h1 i with k | ⟨k1, k2⟩
        · exact .inl k
        · exact .inr ⟨k1, by omega⟩
theorem ovA_row {t : Int} {s : List TLoadOver × (Nat → Int)} (h : OvA F t 0 s) : ∀ w, OvA F t w (ovR c M t w s)
  | 0 => h
  | w + 1 => ovA_step c M F (ovA_row h w)
theorem ovA_all (hm : m ≤ 12) : ∀ k : Nat, OvA F (F + (k : Int)) 0 (ov c M m F k)
  | 0 => ⟨fun _ => .inl rfl, by show ((0 : Nat) : Int) ≤ _; omega⟩
  | k + 1 => by
    have h := ovA_row c M F (ovA_all hm k) m
    exact ⟨h.op, by have := h.len; show (((ovR c M (F + (k : Int)) m (ov c M m F k)).1.length : Nat) : Int) ≤ _; omega⟩
/- nothing is over -/
theorem ov_none (N : Nat) (h : ∀ t, F ≤ t → t < F + (N : Int) → ∀ i, i < m → c t i ≤ M i) : ∀ k, k ≤ N → ov c M m F k = ([], fun _ => -1)
  | 0, _ => rfl
  | k + 1, hk => by
    have ih := ov_none N h k (by omega)
    have row : ∀ w, w ≤ m → ovR c M (F + (k : Int)) w ([], fun _ => -1) = ([], fun _ => -1) := by
      intro w
      induction w with
      | zero => intro _; rfl
      | succ w ihw =>
        intro hw
        show ovS c M (F + (k : Int)) w (ovR c M (F + (k : Int)) w ([], fun _ => -1)) = _
        rw [ihw (by omega)]
        unfold ovS
        rw [if_pos (h _ (by omega) (by omega) w (by omega))]
        simp
    show ovR c M (F + (k : Int)) m (ov c M m F k) = _
    rw [ih]
    exact row m (Nat.le_refl _)
/- g i: the first time over -/
structure OvI (g : Nat → Int) (t : Int) (w : Nat) (s : List TLoadOver × (Nat → Int)) : Prop where
  ent : ∀ e ∈ s.1.map keyO, 0 ≤ e.2 ∧ e.2 < (m : Int) ∧ F ≤ e.1 ∧ (e.1 < t ∨ (e.1 = t ∧ e.2 < (w : Int)))
  exc : ∀ e ∈ s.1.map keyO, ∀ i : Nat, e.2 = (i : Int) → g i ≤ e.1
  ord : (s.1.map keyO).Pairwise klt
  has : ∀ i : Nat, i < m → (g i < t ∨ g i = t ∧ i < w) → (g i, (i : Int)) ∈ s.1.map keyO
  nop : ∀ i : Nat, i < m → ¬ (g i < t ∨ g i = t ∧ i < w) → s.2 i = -1
theorem ovI_step {g : Nat → Int} (hg1 : ∀ i, i < m → ∀ t, F ≤ t → t < g i → c t i ≤ M i) (hg2 : ∀ i, i < m → M i < c (g i) i) {t : Int} (ht : F ≤ t) {w : Nat} (hw : w < m) {s : List TLoadOver × (Nat → Int)} (h : OvI m F g t w s) (ha : ∀ i, s.2 i = -1 ∨ (0 ≤ s.2 i ∧ s.2 i < (s.1.length : Int))) : OvI m F g t (w + 1) (ovS c M t w s) := by
  obtain ⟨h1, h2, h3, h4, h5⟩ := h
  have wk : ∀ e ∈ s.1.map keyO, 0 ≤ e.2 ∧ e.2 < (m : Int) ∧ F ≤ e.1 ∧ (e.1 < t ∨ (e.1 = t ∧ e.2 < ((w + 1 : Nat) : Int))) := fun e he => by
    obtain ⟨k1, k2, k3, k4⟩ := h1 e he
    exact ⟨k1, k2, k3, by omega⟩
  unfold ovS
  by_cases hc : c t w ≤ M w
  · rw [if_pos hc]
    refine ⟨wk, h2, h3, fun i hi hp => ?_, fun i hi hp => ?_⟩
    · by_cases e : i = w
      · subst e
        by_cases e2 : g i = t
        · subst e2
          have := hg2 i hi
          omega
        · exact h4 i hi (by omega)
      · exact h4 i hi (by omega)
    · show (if i = w then (-1 : Int) else s.2 i) = -1
      by_cases e : i = w
      · rw [if_pos e]
      · rw [if_neg e]; exact h5 i hi (by omega)
  · rw [if_neg hc]
    have hgw : g w ≤ t := by
      rcases Int.lt_or_le t (g w) with k | k
      · exact absurd (hg1 w hw t ht k) hc
      · exact k
    by_cases ho : 0 ≤ s.2 w
    · rw [if_pos ho]
      have hkey : (match s.1[(s.2 w).toNat]? with | some e => s.1.set (s.2 w).toNat ⟨e.Sector, e.From, t⟩ | none => s.1).map keyO = s.1.map keyO := by
        split
        · rename_i e he
          rw [List.map_set]
          apply List.ext_getElem?
          intro j
          rw [List.getElem?_set]
          split
          · rename_i hj
            subst hj
            rw [List.getElem?_map, he]
            have := some_lt he
            simp [this, keyO]
          · rfl
        · rfl
      have hold : g w < t ∨ g w = t ∧ w < w := by
        by_cases hq : g w < t ∨ g w = t ∧ w < w
        · exact hq
        · have := h5 w hw hq; omega
      refine ⟨?_, ?_, ?_, fun i hi hp => ?_, fun i hi hp => ?_⟩
      · show ∀ e ∈ List.map keyO _, _
        rw [hkey]; exact wk
      · show ∀ e ∈ List.map keyO _, _
        rw [hkey]; exact h2
      · show (List.map keyO _).Pairwise klt
        rw [hkey]; exact h3
      · show _ ∈ List.map keyO _
        rw [hkey]
        by_cases e : i = w
        · subst e; exact h4 i hi hold
        · exact h4 i hi (by omega)
      · exact h5 i hi (by omega)
    · rw [if_neg ho]
      have hk : (s.1 ++ [(⟨(w : Int), t, t⟩ : TLoadOver)]).map keyO = s.1.map keyO ++ [(t, (w : Int))] := by rw [List.map_append]; rfl
      refine ⟨?_, ?_, ?_, fun i hi hp => ?_, fun i hi hp => ?_⟩
      · intro e he
        have he : e ∈ List.map keyO (s.1 ++ [(⟨(w : Int), t, t⟩ : TLoadOver)]) := he
        rw [hk] at he
        rcases List.mem_append.1 he with k | k
        · exact wk e k
        · simp only [List.mem_singleton] at k; subst k
          exact ⟨by show (0 : Int) ≤ (w : Int); omega, by show (w : Int) < (m : Int); omega, ht, .inr ⟨rfl, by show (w : Int) < ((w + 1 : Nat) : Int); omega⟩⟩
      · intro e he i hi
        have he : e ∈ List.map keyO (s.1 ++ [(⟨(w : Int), t, t⟩ : TLoadOver)]) := he
        rw [hk] at he
        rcases List.mem_append.1 he with k | k
        · exact h2 e k i hi
        · simp only [List.mem_singleton] at k; subst k
          have : w = i := by have hi : (w : Int) = (i : Int) := hi; omega
          subst this
          exact hgw
      · show (List.map keyO (s.1 ++ [(⟨(w : Int), t, t⟩ : TLoadOver)])).Pairwise klt
        rw [hk, List.pairwise_append]
        refine ⟨h3, List.pairwise_singleton _ _, fun a ha' b hb => ?_⟩
        simp only [List.mem_singleton] at hb; subst hb
        obtain ⟨-, -, -, k⟩ := h1 a ha'
        exact k
      · show _ ∈ List.map keyO (s.1 ++ [(⟨(w : Int), t, t⟩ : TLoadOver)])
        rw [hk]
        by_cases hq : g i < t ∨ g i = t ∧ i < w
        · exact List.mem_append_left _ (h4 i hi hq)
        · have e1 : i = w := by omega
          subst e1
          have e2 : g i = t := by omega
          rw [e2]
          exact List.mem_append_right _ (List.mem_singleton_self _)
      · show (if i = w then (s.1.length : Int) else s.2 i) = -1
        by_cases e : i = w
        · subst e; exfalso; omega
        · rw [if_neg e]; exact h5 i hi (by omega)
theorem ovI_all {g : Nat → Int} (hg0 : ∀ i, i < m → F ≤ g i) (hg1 : ∀ i, i < m → ∀ t, F ≤ t → t < g i → c t i ≤ M i) (hg2 : ∀ i, i < m → M i < c (g i) i) (hm : m ≤ 12) : ∀ k : Nat, OvI m F g (F + (k : Int)) 0 (ov c M m F k)
  | 0 => ⟨fun e he => by simp [ov] at he, fun e he => by simp [ov] at he, List.Pairwise.nil, fun i hi hp => by have := hg0 i hi; omega, fun i hi hp => rfl⟩
  | k + 1 => by
    have ih := ovI_all hg0 hg1 hg2 hm k
    have row : ∀ w, w ≤ m → OvI m F g (F + (k : Int)) w (ovR c M (F + (k : Int)) w (ov c M m F k)) := by
      intro w
      induction w with
      | zero => intro _; exact ih
      | succ w ihw =>
        intro hw
        exact ovI_step c M m F hg1 hg2 (by omega) (by omega) (ihw (by omega)) (ovA_row c M F (ovA_all c M m F hm k) w).op
    obtain ⟨h1, h2, h3, h4, h5⟩ := row m (Nat.le_refl _)
    refine ⟨fun e he => ?_, h2, h3, fun i hi hp => h4 i hi (by omega), fun i hi hp => h5 i hi (by omega)⟩
    obtain ⟨k1, k2, k3, k4⟩ := h1 e he
    exact ⟨k1, k2, k3, by omega⟩
end
end Go.Proofs.YtldiackagnjlgaaGreat
