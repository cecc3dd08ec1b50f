/- Regions that draw their order: every order gives what the order of the text gives. -/
import Derived.Test.YtfhcciepaangiaaPi14
set_option linter.unusedVariables false
set_option linter.unusedSimpArgs false
namespace Go.Proofs.Ytfhcciepaangiaa
open Go.RowKit

/- updates by key, of a set of steps -/
section
variable {κ ν : Type} {base : κ → ν} {u : Nat → κ → Option ν} {L L' : Nat → Bool} {k : κ}
def resU (base : κ → ν) (u : Nat → κ → Option ν) (L : Nat → Bool) : Nat → κ → ν
  | 0, k => base k
  | n + 1, k => if L n then (u n k).getD (resU base u L n k) else resU base u L n k
theorem resU_congr : ∀ n, (∀ i, i < n → u i k ≠ none → L i = L' i) → resU base u L n k = resU base u L' n k
  | 0, _ => rfl
  | n + 1, h => by
    unfold resU
    have ih := resU_congr n (fun i hi => h i (by omega))
    cases hu : u n k with
    | none => simp only [Option.getD_none, ite_self]; exact ih
    | some v => rw [h n (by omega) (by simp [hu]), ih]
theorem resU_cut {j : Nat} : ∀ n, j ≤ n → (∀ i, j ≤ i → i < n → u i k ≠ none → L i = false) → resU base u L n k = resU base u L j k
  | 0, hj, h => by
    have : j = 0 := by omega
    subst this; rfl
  | n + 1, hj, h => by
    rcases Nat.lt_or_ge n j with hlt | hge
    · have : j = n + 1 := by omega
      subst this; rfl
    · have ih := resU_cut n hge (fun i h1 h2 => h i h1 (by omega))
      rw [← ih]
      conv => lhs; unfold resU
      cases hu : u n k with
      | none => simp only [Option.getD_none, ite_self]
      | some v => rw [h n hge (by omega) (by simp [hu])]; simp
def also (L : Nat → Bool) (j : Nat) : Nat → Bool := fun i => L i || i == j
theorem resU_none {j n : Nat} (hu : u j k = none) : resU base u (also L j) n k = resU base u L n k :=
  resU_congr n fun i _ hne => by
    have : i ≠ j := fun e => hne (by rw [e]; exact hu)
    simp [also, this]
theorem resU_some {j n : Nat} {v : ν} (hj : j < n) (hu : u j k = some v) (h : ∀ i, j < i → i < n → u i k ≠ none → L i = false) : resU base u (also L j) n k = v := by
  rw [resU_cut (j := j + 1) n hj (fun i h1 h2 h3 => by
    have : i ≠ j := by omega
    simp [also, this, h i (by omega) h2 h3])]
  unfold resU
  simp [also, hu]
theorem resU_text {j n : Nat} (hj : j ≤ n) (h : ∀ i, i < n → u i k ≠ none → (L i = true ↔ i < j)) : resU base u L n k = resU base u (fun _ => true) j k := by
  rw [resU_cut n hj (fun i h1 h2 h3 => by
    cases hl : L i with
    | false => rfl
    | true => have := (h i h2 h3).1 hl; omega)]
  exact resU_congr j fun i hi hne => (h i (by omega) hne).2 hi
end

/- what an operation leaves at a number -/
def wval : Wr → Nat → Option (Option ABlk)
  | [], _ => none
  | (i, r) :: rest, id => match wval rest id with
    | some x => some x
    | none => if id = i then some r else none
theorem upd_wval (d : Wr) : ∀ (M : Nat → Option ABlk) (id : Nat), upd M d id = (wval d id).getD (M id) := by
  induction d with
  | nil => intro M id; rfl
  | cons p r ih =>
    obtain ⟨i, v⟩ := p
    intro M id
    unfold upd wval
    rw [ih]
    cases wval r id with
    | some x => rfl
    | none => by_cases h : id = i <;> simp [h]
theorem wval_mem {d : Wr} {id : Nat} (h : wval d id ≠ none) : ∃ p ∈ d, p.1 = id := by
  induction d with
  | nil => simp [wval] at h
  | cons p r ih =>
    obtain ⟨i, v⟩ := p
    unfold wval at h
    cases hr : wval r id with
    | some x =>
      obtain ⟨q, hq, he⟩ := ih (by simp [hr])
      exact ⟨q, by simp [hq], he⟩
    | none =>
      rw [hr] at h
      by_cases hi : id = i
      · exact ⟨(i, v), by simp, hi.symm⟩
      · simp [hi] at h

section
variable {P : Program} {B : Nat} {K : Cfg} {cf : CallF} {Q : Exit → Act → World → Prop}

/- the run in the order of the text, step by step -/
def Stp (P : Program) (K : Cfg) (nt : Nat) (ops : Array Oper) (o : Oper) (s s' : St) (v : AV) (r : Rec) : Prop :=
  ((awanted ops s.e o = some true ∧ OpSem P K.gl s.e (look' s.m r.ft) s.nx o v r.d) ∨ (awanted ops s.e o = some false ∧ v = .tup [] ∧ r = ⟨[], []⟩)) ∧ putD nt s.e o.dst v = some s'.e ∧ (∀ id, mget s'.m id = upd (mget s.m) r.d id) ∧ s'.nx = s.nx + 1
theorem evDraw_trace (hcf : CallOk P K.gl cf) {nt : Nat} {ops : Array Oper} : ∀ (l : List Oper) {s s' : St} {rs rs' : List Rec}, evDraw P K cf nt ops l s rs = some (s', rs') →
    ∃ (S : Nat → St) (v : Nat → AV) (rc : Nat → Rec) (l' : List Rec), S 0 = s ∧ S l.length = s' ∧ rs' = rs ++ l' ∧ l'.length = l.length ∧ (∀ i, i < l.length → l'[i]? = some (rc i)) ∧ ∀ i o, l[i]? = some o → Stp P K nt ops o (S i) (S (i + 1)) (v i) (rc i)
  | [], s, s', rs, rs', h => by
    simp only [evDraw, Option.some.injEq, Prod.mk.injEq] at h
    obtain ⟨rfl, rfl⟩ := h
    exact ⟨fun _ => s, fun _ => .und, fun _ => ⟨[], []⟩, [], rfl, rfl, by simp, rfl, fun i hi => by simp at hi, fun i o h => by simp at h⟩
  | o :: r, s, s', rs, rs', h => by
    have key : ∀ (v0 : AV) (r0 : Rec) (s1 : St), Stp P K nt ops o s s1 v0 r0 → evDraw P K cf nt ops r s1 (rs ++ [r0]) = some (s', rs') →
        ∃ (S : Nat → St) (v : Nat → AV) (rc : Nat → Rec) (l' : List Rec), S 0 = s ∧ S (o :: r).length = s' ∧ rs' = rs ++ l' ∧ l'.length = (o :: r).length ∧ (∀ i, i < (o :: r).length → l'[i]? = some (rc i)) ∧ ∀ i o', (o :: r)[i]? = some o' → Stp P K nt ops o' (S i) (S (i + 1)) (v i) (rc i) := by
      intro v0 r0 s1 hst hrest
      obtain ⟨S, v, rc, l', h1, h2, h3, h4, h5, h6⟩ := evDraw_trace hcf r hrest
      refine ⟨fun i => match i with | 0 => s | i + 1 => S i, fun i => match i with | 0 => v0 | i + 1 => v i, fun i => match i with | 0 => r0 | i + 1 => rc i, r0 :: l', rfl, by simpa using h2, by rw [h3]; simp, by simp [h4], fun i hi => ?_, fun i o' ho => ?_⟩
      · cases i with
        | zero => rfl
        | succ i => simpa using h5 i (by simpa using hi)
      · cases i with
        | zero =>
          simp only [List.getElem?_cons_zero, Option.some.injEq] at ho
          subst ho
          show Stp P K nt ops o s (S 0) v0 r0
          rw [h1]; exact hst
        | succ i => exact h6 i o' (by simpa using ho)
    unfold evDraw at h
    split at h
    · rename_i hw
      split at h
      · rename_i v d hop
        split at h
        · rename_i e he
          exact key v ⟨d, footR K s o⟩ ⟨e, mputs s.m d, s.nx + 1⟩ ⟨.inl ⟨hw, opStep_ok hcf hop⟩, he, mget_mputs _ _, rfl⟩ h
        · cases h
      · cases h
    · rename_i hw
      split at h
      · rename_i e he
        exact key (.tup []) ⟨[], []⟩ ⟨e, s.m, s.nx + 1⟩ ⟨.inr ⟨hw, rfl, rfl⟩, he, fun _ => rfl, rfl⟩ h
      · cases h
    · cases h

/- who comes before whom -/
theorem fold_mask {acc : List Nat} {i : Nat} : ∀ (l : List Edge) (s : Nat), (l.foldl (fun s e => bif Region.binds .any e then s ||| 2 ^ e.on ||| acc.getD e.on 0 else s) s).testBit i = true → s.testBit i = true ∨ ∃ e ∈ l, Region.binds .any e = true ∧ (e.on = i ∨ (acc.getD e.on 0).testBit i = true)
  | [], s, h => .inl h
  | e :: l, s, h => by
    simp only [List.foldl_cons] at h
    rcases fold_mask l _ h with h1 | ⟨e', he', h2⟩
    · cases hb : Region.binds .any e with
      | false => rw [hb] at h1; exact .inl h1
      | true =>
        rw [hb] at h1
        simp only [cond_true, Nat.testBit_or, Bool.or_eq_true] at h1
        rcases h1 with (h1 | h1) | h1
        · exact .inl h1
        · refine .inr ⟨e, by simp, hb, .inl ?_⟩
          have := Nat.testBit_two_pow (n := e.on) (m := i)
          rw [this] at h1
          simpa using h1
        · exact .inr ⟨e, by simp, hb, .inr h1⟩
    · exact .inr ⟨e', by simp [he'], h2⟩
theorem masks_get : ∀ (l : List Oper) (acc : List Nat) (k : Nat), k < acc.length → (masks l acc).getD k 0 = acc.getD k 0
  | [], acc, k, _ => rfl
  | o :: r, acc, k, h => by
    unfold masks
    rw [masks_get r _ k (by simp; omega)]
    simp only [List.getD_eq_getElem?_getD, List.getElem?_append_left h]
theorem masks_at : ∀ (l : List Oper) (acc : List Nat) (j : Nat) (o : Oper), l[j]? = some o → ∃ ac : List Nat, ac.length = acc.length + j ∧ (∀ k, k < ac.length → ac.getD k 0 = (masks l acc).getD k 0) ∧ (masks l acc).getD (acc.length + j) 0 = edgeMask o ac
  | [], acc, j, o, h => by simp at h
  | o' :: r, acc, 0, o, h => by
    simp only [List.getElem?_cons_zero, Option.some.injEq] at h
    subst h
    refine ⟨acc, rfl, fun k hk => (masks_get _ acc k hk).symm, ?_⟩
    unfold masks
    rw [masks_get r _ _ (by simp)]
    simp [List.getD_eq_getElem?_getD]
  | o' :: r, acc, j + 1, o, h => by
    obtain ⟨ac, h1, h2, h3⟩ := masks_at r (acc ++ [edgeMask o' acc]) j o (by simpa using h)
    refine ⟨ac, by simp at h1; omega, fun k hk => ?_, ?_⟩
    · rw [h2 k hk]; rfl
    · unfold masks
      have e : acc.length + (j + 1) = (acc ++ [edgeMask o' acc]).length + j := by simp; omega
      rw [e]; exact h3
theorem mask_bit {l : List Oper} {j i : Nat} {o : Oper} (ho : l[j]? = some o) (hb : ∀ e ∈ o.after.toList, Region.binds .any e = true → e.on < j) (h : ((masks l []).getD j 0).testBit i = true) :
    ∃ e ∈ o.after.toList, Region.binds .any e = true ∧ e.on < j ∧ (e.on = i ∨ ((masks l []).getD e.on 0).testBit i = true) := by
  obtain ⟨ac, h1, h2, h3⟩ := masks_at l [] j o ho
  simp only [List.length_nil, Nat.zero_add] at h1 h3
  rw [h3] at h
  unfold edgeMask at h
  rcases fold_mask _ _ h with h | ⟨e, he, hbe, h⟩
  · simp at h
  · have hlt := hb e he hbe
    refine ⟨e, he, hbe, hlt, ?_⟩
    rw [h2 e.on (by omega)] at h
    exact h
theorem mask_lt {l : List Oper} (hb : ∀ j o, l[j]? = some o → ∀ e ∈ o.after.toList, Region.binds .any e = true → e.on < j) {i : Nat} : ∀ (j : Nat), ((masks l []).getD j 0).testBit i = true → j < l.length → i < j := by
  intro j
  induction j using Nat.strongRecOn with
  | _ j ih =>
    intro h hj
    obtain ⟨o, ho⟩ : ∃ o, l[j]? = some o := ⟨l[j], List.getElem?_eq_getElem hj⟩
    obtain ⟨e, he, hbe, hlt, hi⟩ := mask_bit ho (hb j o ho) h
    rcases hi with rfl | hi
    · exact hlt
    · have := ih e.on hlt hi (by omega); omega
theorem mask_listed {l : List Oper} (hb : ∀ j o, l[j]? = some o → ∀ e ∈ o.after.toList, Region.binds .any e = true → e.on < j) {L : Nat → Bool} (hc : ∀ j o, l[j]? = some o → L j = true → ∀ e ∈ o.after.toList, Region.binds .any e = true → L e.on = true) {i : Nat} :
    ∀ (j : Nat) (o : Oper), l[j]? = some o → (∀ e ∈ o.after.toList, Region.binds .any e = true → L e.on = true) → ((masks l []).getD j 0).testBit i = true → L i = true := by
  intro j
  induction j using Nat.strongRecOn with
  | _ j ih =>
    intro o ho hl h
    obtain ⟨e, he, hbe, hlt, hi⟩ := mask_bit ho (hb j o ho) h
    have hle := hl e he hbe
    rcases hi with rfl | hi
    · exact hle
    · have hj : j < l.length := by
        rcases Nat.lt_or_ge j l.length with h | h
        · exact h
        · rw [List.getElem?_eq_none h] at ho; cases ho
      obtain ⟨o', ho'⟩ : ∃ o, l[e.on]? = some o := ⟨l[e.on], List.getElem?_eq_getElem (by omega)⟩
      exact ih e.on hlt o' ho' (hc e.on o' ho' hle) hi
end
end Go.Proofs.Ytfhcciepaangiaa
