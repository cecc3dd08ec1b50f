/- Best, Refute and Refuted on valid options: their answers by the list of all visits. -/
import Derived.Test.YtlgbioidkbeanaaTj4
set_option linter.unusedVariables false
set_option linter.unusedSimpArgs false
namespace Go.Proofs.Ytlgbioidkbeanaa

theorem before_cmp (n : Nat) {a b : List Int} (h : Before a b) (ha : a.length ≤ 100) (hn : 100 < n) : g32 n a b = some (-1) := by
  obtain ⟨p, x, y, s, t, rfl, rfl, hxy⟩ := h
  unfold g32
  refine iterO_eq (fun v => ∃ i : Nat, i ≤ p.length ∧ v = (i : Int)) (-1) (fun v => p.length - v.toNat) ?_ n _ ⟨0, Nat.zero_le _, rfl⟩ (by simp at ha; show p.length - (0 : Int).toNat < n; omega)
  rintro _ ⟨i, hi, rfl⟩
  unfold S32_0
  simp only [List.length_append, List.length_cons] at ha ⊢
  rw [decide_eq_true (show (i : Int) < ((p.length + (s.length + 1) : Nat) : Int) by omega), cond_true]
  rcases Nat.lt_or_ge i p.length with hlt | hge
  · have e1 : (p ++ x :: s)[i]? = some p[i] := by rw [List.getElem?_append_left hlt]; exact List.getElem?_eq_getElem hlt
    have e2 : (p ++ y :: t)[i]? = some p[i] := by rw [List.getElem?_append_left hlt]; exact List.getElem?_eq_getElem hlt
    rw [getI_at e1, Option.bind_some, decide_eq_false (show ¬ (i : Int) ≥ ((p.length + (t.length + 1) : Nat) : Int) by omega), cond_false, getI_at e2, Option.bind_some]
    have hc : g44 n p[i] p[i] = some 0 := by
      unfold g44 g53
      simp
    rw [hc, Option.bind_some, show ((0 : Int) != 0) = false from rfl, cond_false, wS (by omega)]
    exact .inl ⟨_, rfl, ⟨i + 1, hlt, rfl⟩, by simp only [Int.toNat_natCast]; omega⟩
  · obtain rfl : i = p.length := by omega
    have e1 : (p ++ x :: s)[p.length]? = some x := by simp
    have e2 : (p ++ y :: t)[p.length]? = some y := by simp
    rw [getI_at e1, Option.bind_some, decide_eq_false (show ¬ (p.length : Int) ≥ ((p.length + (t.length + 1) : Nat) : Int) by omega), cond_false, getI_at e2, Option.bind_some]
    have hc : g44 n x y = some (-1) := by
      unfold g44 g53
      simp [hxy]
    rw [hc, Option.bind_some]
    exact .inr rfl
theorem self_cmp (n : Nat) (a : List Int) (ha : a.length ≤ 100) (hn : 100 < n) : g32 n a a = some 0 := by
  unfold g32
  refine iterO_eq (fun v => ∃ i : Nat, i ≤ a.length ∧ v = (i : Int)) 0 (fun v => a.length - v.toNat) ?_ n _ ⟨0, Nat.zero_le _, rfl⟩ (by show a.length - (0 : Int).toNat < n; omega)
  rintro _ ⟨i, hi, rfl⟩
  unfold S32_0
  rcases Nat.lt_or_ge i a.length with hlt | hge
  · have e1 : a[i]? = some a[i] := List.getElem?_eq_getElem hlt
    rw [decide_eq_true (show (i : Int) < (a.length : Int) by omega), cond_true, getI_at e1, Option.bind_some, decide_eq_false (show ¬ (i : Int) ≥ (a.length : Int) by omega), cond_false, Option.bind_some]
    have hc : g44 n a[i] a[i] = some 0 := by
      unfold g44 g53
      simp
    rw [hc, Option.bind_some, show ((0 : Int) != 0) = false from rfl, cond_false, wS (by omega)]
    exact .inl ⟨_, rfl, ⟨i + 1, hlt, rfl⟩, by simp only [Int.toNat_natCast]; omega⟩
  · rw [decide_eq_false (by omega), cond_false, decide_eq_false (by omega)]
    exact .inr rfl
theorem before_pre {a b : List Int} (h : Before a b) : ¬ a = b.take a.length := by
  obtain ⟨p, x, y, s, t, rfl, rfl, hxy⟩ := h
  intro e
  have := congrArg (·[p.length]?) e
  simp [List.getElem?_take] at this
  omega
theorem prodL_pos {l : List (List TJointOption)} (h : ∀ o ∈ l, 1 ≤ o.length) : 1 ≤ prodL l := by
  induction l with
  | nil => simp [prodL]
  | cons o l ih =>
    have h1 := h o (by simp)
    have h2 := ih (fun o ho => h o (by simp [ho]))
    exact Nat.mul_le_mul h1 h2
theorem many_val : ∀ (l : List (List TJointOption)) (z : Nat), (∀ o ∈ l, 1 ≤ o.length) → z * prodL l ≤ 5000 → manyT (z : Int) l = ((z * prodL l : Nat) : Int)
  | [], z, _, _ => by simp [manyT, prodL]
  | o :: l, z, h, hb => by
    have h2 := prodL_pos (l := l) (fun o ho => h o (by simp [ho]))
    have e : z * prodL (o :: l) = z * o.length * prodL l := by simp only [prodL, Nat.mul_assoc]
    rw [e] at hb ⊢
    have h3 : z * o.length ≤ 5000 := Nat.le_trans (Nat.le_mul_of_pos_right _ h2) hb
    unfold manyT
    have hw : IntKind.wrap .i64 ((z : Int) * (o.length : Int)) = ((z * o.length : Nat) : Int) := by
      have := Int.natCast_mul z o.length
      rw [← this]
      exact wrap64 (by omega) (by omega)
    rw [hw]
    exact many_val l (z * o.length) (fun o ho => h o (by simp [ho])) hb
theorem prodL_drop {l : List (List TJointOption)} (h : ∀ o ∈ l, 1 ≤ o.length) (k : Nat) : prodL (l.drop k) ≤ prodL l := by
  have e : prodL l = prodL (l.take k) * prodL (l.drop k) := by rw [← prodL_append, List.take_append_drop]
  rw [e]
  exact Nat.le_mul_of_pos_left _ (prodL_pos (fun o ho => h o (List.mem_of_mem_take ho)))
theorem many_drop {l : List (List TJointOption)} (h : ∀ o ∈ l, 1 ≤ o.length) (hp : prodL l ≤ 5000) (k : Nat) : manyT 1 (l.drop k) = ((prodL (l.drop k) : Nat) : Int) := by
  have := many_val (l.drop k) 1 (fun o ho => h o (List.mem_of_mem_drop ho)) (by have := prodL_drop h k; omega)
  simpa using this
/- one refutation more -/
theorem rfd_step {n : Nat} (hn : big n) {l : List (List TJointOption)} (hl : l.length ≤ 6) (h1 : ∀ o ∈ l, 1 ≤ o.length) (hp : prodL l ≤ 5000) {cl : Nat → Nat → Nat → Nat → Bool} {p : Option (List Int)} {r : TJointRefuted} {R : List TJointRefuted} {z : Nat} (hg : goodF l cl r = true) (hb : ∀ a, p = some a → a.length ≤ 100 ∧ Before a r.Choice) (hz : prodL (l.drop r.Choice.length) ≤ z) (hz5 : z ≤ 5000) :
    rfdT n l cl p (r :: R) (z : Int) = rfdT n l cl (some r.Choice) R ((z - prodL (l.drop r.Choice.length) : Nat) : Int) := by
  have hw : IntKind.wrap .i64 ((z : Int) - manyT 1 (l.drop r.Choice.length)) = ((z - prodL (l.drop r.Choice.length) : Nat) : Int) := by
    rw [many_drop h1 hp]
    have : (z : Int) - ((prodL (l.drop r.Choice.length) : Nat) : Int) = ((z - prodL (l.drop r.Choice.length) : Nat) : Int) := by omega
    rw [this]
    exact wrap64 (by omega) (by omega)
  rw [← hw]
  show (if goodF l cl r = false then some 1 else _) = _
  rw [if_neg (by rw [hg]; exact Bool.noConfusion)]
  cases p with
  | none => rfl
  | some a =>
    obtain ⟨ha, hba⟩ := hb a rfl
    have hpre := before_pre hba
    simp only
    rw [before_cmp n hba ha (by unfold big at hn; omega)]
    simp [hpre]
theorem rfd_pass {n : Nat} (hn : big n) {l : List (List TJointOption)} (hl : l.length ≤ 6) (h1 : ∀ o ∈ l, 1 ≤ o.length) (hp : prodL l ≤ 5000) {cl : Nat → Nat → Nat → Nat → Bool} : ∀ (R : List TJointRefuted) (p : Option (List Int)) (w : Nat), (∀ r ∈ R, goodF l cl r = true ∧ r.Choice.length ≤ 6) → (∀ a, p = some a → a.length ≤ 100 ∧ ∀ r ∈ R, Before a r.Choice) → R.Pairwise (fun a b => Before a.Choice b.Choice) →
    (R.map fun r => prodL (l.drop r.Choice.length)).sum + w ≤ 5000 → rfdT n l cl p R (((R.map fun r => prodL (l.drop r.Choice.length)).sum + w : Nat) : Int) = some (if w ≠ 0 then 1 else 0)
  | [], p, w, _, _, _, _ => by
    show some (if ((([] : List TJointRefuted).map fun r => prodL (l.drop r.Choice.length)).sum + w : Nat) ≠ (0 : Int) then (1 : Int) else 0) = _
    simp
  | r :: R, p, w, hg, hb, hs, h5 => by
    have e : ((r :: R).map fun r => prodL (l.drop r.Choice.length)).sum + w = prodL (l.drop r.Choice.length) + ((R.map fun r => prodL (l.drop r.Choice.length)).sum + w) := by simp; omega
    rw [e] at h5 ⊢
    rw [rfd_step hn hl h1 hp (hg r (by simp)).1 (fun a ha => ⟨(hb a ha).1, (hb a ha).2 r (by simp)⟩) (by omega) h5]
    rw [Nat.add_sub_cancel_left]
    refine rfd_pass hn hl h1 hp R _ w (fun r hr => hg r (by simp [hr])) (fun a ha => ?_) (List.pairwise_cons.1 hs).2 (by omega)
    cases ha
    exact ⟨by have := (hg r (by simp)).2; omega, (List.pairwise_cons.1 hs).1⟩
/- the visits of all options -/
def evs (n : Nat) (l : List (List TJointOption)) (s : TSep) : List Ev := ev l (clF n l s) l.length []
def refs (E : List Ev) : List TJointRefuted := E.filterMap fun e => e.2.map fun i => ⟨e.1, i⟩
theorem evs_ok {n : Nat} {l : List (List TJointOption)} {s : TSep} : ∀ e ∈ evs n l s, EvOk l (clF n l s) [] e := ev_ok l.length [] (by simp) ⟨by simp, fun j x h => by simp at h⟩ (.inl rfl)
theorem evs_sorted {n : Nat} {l : List (List TJointOption)} {s : TSep} : (evs n l s).Pairwise (fun a b => Before a.1 b.1) := (ev_sorted l.length []).2
theorem evs_count {n : Nat} {l : List (List TJointOption)} {s : TSep} : ((evs n l s).map (wgt l)).sum = prodL l := by
  have := ev_count (l := l) (cl := clF n l s) l.length [] (by simp)
  unfold evs
  simpa using this
theorem len_le_sum (w : Ev → Nat) : ∀ E : List Ev, (∀ e ∈ E, 1 ≤ w e) → E.length ≤ (E.map w).sum
  | [], _ => by simp
  | e :: E, h => by
    have h1 := h e (by simp)
    have h2 := len_le_sum w E (fun e he => h e (by simp [he]))
    simp; omega
theorem evs_len {n : Nat} {l : List (List TJointOption)} {s : TSep} (h : JOk n l) : (evs n l s).length ≤ prodL l := by
  rw [← evs_count (n := n) (s := s)]
  refine len_le_sum _ _ (fun e he => ?_)
  unfold wgt
  split
  · exact Nat.le_refl _
  · exact prodL_pos (fun o ho => (h.each o (List.mem_of_mem_drop ho)).1)
theorem few_jok {n : Nat} {l : List (List TJointOption)} (h : JOk n l) : fewL l = true := by
  unfold fewL
  simp only [Bool.and_eq_true, decide_eq_true_eq, List.all_eq_true]
  exact ⟨h.len, fun o ho => (h.each o ho).2.1⟩
theorem opt_at {l : List (List TJointOption)} {i m : Nat} (hi : i < l.length) (hm : m < (l.getD i []).length) : ∃ o x, l[i]? = some o ∧ o[m]? = some x ∧ o ∈ l ∧ x ∈ o := by
  have e : l.getD i [] = l[i] := by simp [List.getD, hi]
  rw [e] at hm
  exact ⟨l[i], (l[i])[m], List.getElem?_eq_getElem hi, List.getElem?_eq_getElem hm, List.getElem_mem hi, List.getElem_mem hm⟩
theorem cl_tot {n : Nat} (hn : big n) {l : List (List TJointOption)} (h : JOk n l) {s : TSep} (hs : g36 n s = some 0) {i k m q : Nat} (hi : i < l.length) (hk : k < l.length) (hm : m < (l.getD i []).length) (hq : q < (l.getD k []).length) :
    ∃ (a b : List TJointOption) (x y : TJointOption) (v : Bool), l[i]? = some a ∧ l[k]? = some b ∧ a[m]? = some x ∧ b[q]? = some y ∧ OptOk n x ∧ OptOk n y ∧ clO n l s i k m q = some v ∧ (v = false → g38 n x.Tube y.Tube s = some []) := by
  obtain ⟨a, x, h1, h2, h3, h4⟩ := opt_at hi hm
  obtain ⟨b, y, k1, k2, k3, k4⟩ := opt_at hk hq
  have ox := (h.each a h3).2.2 x h4
  have oy := (h.each b k3).2.2 y k4
  obtain ⟨r, hr, hr2⟩ := first_tot n hn ox.ok oy.ok ox.chk oy.chk s hs
  refine ⟨a, b, x, y, r.2 == 0, h1, k1, h2, k2, ox, oy, ?_, hr2⟩
  unfold clO
  rw [h1, k1]
  simp only [Option.bind_some, h2, k2, hr, Option.map_some]
theorem clAll_jok {n : Nat} (hn : big n) {l : List (List TJointOption)} (h : JOk n l) {s : TSep} (hs : g36 n s = some 0) : clAll n l s = true := by
  unfold clAll
  simp only [List.all_eq_true, List.mem_range]
  intro k hk i hi m hm q hq
  obtain ⟨a, b, x, y, v, -, -, -, -, -, -, hv, -⟩ := cl_tot hn h hs (show i < l.length by omega) hk hm hq
  rw [hv]; rfl
theorem clear_spans {n : Nat} (hn : big n) {l : List (List TJointOption)} (h : JOk n l) {s : TSep} (hs : g36 n s = some 0) {i k m q : Nat} (hi : i < l.length) (hk : k < l.length) (hm : m < (l.getD i []).length) (hq : q < (l.getD k []).length) (hc : clF n l s i k m q = false) :
    ∃ (a b : List TJointOption) (x y : TJointOption), l[i]? = some a ∧ l[k]? = some b ∧ a[m]? = some x ∧ b[q]? = some y ∧ g38 n x.Tube y.Tube s = some [] := by
  obtain ⟨a, b, x, y, v, h1, h2, h3, h4, -, -, hv, h5⟩ := cl_tot hn h hs hi hk hm hq
  unfold clF at hc
  rw [hv] at hc
  exact ⟨a, b, x, y, h1, h2, h3, h4, h5 hc⟩
/- costs -/
def costS (l : List (List TJointOption)) : Nat → List Int → Int
  | _, [] => 0
  | i, p :: c => (((l.getD i []).getD p.toNat ⟨0, []⟩).Cost) + costS l (i + 1) c
theorem cost_ok {n : Nat} {l : List (List TJointOption)} (h : JOk n l) : ∀ (c : List Int) (i : Nat) (s : Int), i + c.length ≤ l.length → (∀ (j : Nat) (x : Int), c[j]? = some x → 0 ≤ x ∧ x < ((l.getD (i + j) []).length : Int)) → 0 ≤ s → s + c.length * 1000000 ≤ 100000000 → costT l i c s = some (s + costS l i c) ∧ 0 ≤ costS l i c ∧ costS l i c ≤ c.length * 1000000
  | [], i, s, _, _, _, _ => by simp [costT, costS]
  | p :: c, i, s, hi, hc, h0, hb => by
    simp only [List.length_cons] at hi hb
    obtain ⟨hp1, hp2⟩ := hc 0 p rfl
    rw [Nat.add_zero] at hp2
    obtain ⟨o, x, h1, h2, h3, h4⟩ := opt_at (show i < l.length by omega) (show p.toNat < (l.getD i []).length by omega)
    have ox := (h.each o h3).2.2 x h4
    have hlo := ox.lo
    have hhi := ox.hi
    have hx : getI o p = some x := by
      unfold getI
      rw [if_pos hp1]; exact h2
    have hcost : ((l.getD i []).getD p.toNat ⟨0, []⟩) = x := by
      have : l.getD i [] = o := by simp [List.getD, h1]
      rw [this]; simp [List.getD, h2]
    have hw : IntKind.wrap .i64 (s + x.Cost) = s + x.Cost := wrap64 (by omega) (by omega)
    obtain ⟨e1, e2, e3⟩ := cost_ok h c (i + 1) (s + x.Cost) (by omega) (fun j y hy => by
      have := hc (j + 1) y (by simpa using hy)
      rwa [show i + (j + 1) = i + 1 + j by omega] at this) (by omega) (by push_cast at hb ⊢; omega)
    refine ⟨?_, ?_, ?_⟩
    · unfold costT costS
      rw [h1, Option.bind_some, hx, Option.bind_some, hw, e1, hcost]
      congr 1; omega
    · unfold costS; rw [hcost]; omega
    · unfold costS; rw [hcost]; simp only [List.length_cons]; push_cast; omega
theorem cho_cost {n : Nat} {l : List (List TJointOption)} (h : JOk n l) {c : List Int} (hc : Cho l c) : costT l 0 c 0 = some (costS l 0 c) ∧ 0 ≤ costS l 0 c := by
  have hl := h.len
  obtain ⟨e1, e2, e3⟩ := cost_ok h c 0 0 (by have := hc.1; omega) (fun j x hx => by rw [Nat.zero_add]; exact hc.2 j x hx) (Int.le_refl _) (by have := hc.1; omega)
  rw [Int.zero_add] at e1
  exact ⟨e1, e2⟩
end Go.Proofs.Ytlgbioidkbeanaa
