/- JointNeeds, on plain values. -/
import Derived.Test.YtlgbioidkbeanaaTj7
set_option linter.unusedVariables false
set_option linter.unusedSimpArgs false
namespace Go.Proofs.Ytlgbioidkbeanaa

theorem pick_tot (n : Nat) (a : Int) (m : Nat) (h0 : 0 < m) (h1 : m ≤ 1000000) : ∃ p : Nat, g14 n a (m : Int) = some (p : Int) ∧ p < m := by
  unfold g14
  have hm : IntKind.wrap .u64 (m : Int) = (m : Int) := by simp [IntKind.wrap, IntKind.signed, IntKind.bits]; omega
  have ha : 0 ≤ IntKind.wrap .u64 a := by simp [IntKind.wrap, IntKind.signed, IntKind.bits]; omega
  generalize IntKind.wrap .u64 a = b at ha
  have ht : Int.tmod b (m : Int) = ((b.toNat % m : Nat) : Int) := by
    obtain ⟨q, rfl⟩ := Int.eq_ofNat_of_zero_le ha
    rw [Int.tmod_eq_emod_of_nonneg ha, Int.toNat_natCast]; simp
  have hlt : b.toNat % m < m := Nat.mod_lt _ h0
  refine ⟨b.toNat % m, ?_, hlt⟩
  rw [hm]
  unfold modO
  rw [ht]
  have : ¬ ((m : Int) = 0) := by omega
  simp only [this, if_false, decide_false, cond_false, Option.bind_some]
  rw [wrap64 (by omega) (by omega)]
def sumW (l : List (List TJointOption)) (R : List TJointRefuted) : Nat := (R.map fun r => prodL (l.drop r.Choice.length)).sum
theorem sumW_append (l : List (List TJointOption)) (A B : List TJointRefuted) : sumW l (A ++ B) = sumW l A + sumW l B := by simp [sumW]
/- a good beginning is passed -/
theorem rfd_app {n : Nat} (hn : big n) {l : List (List TJointOption)} (hl : l.length ≤ 6) (h1 : ∀ o ∈ l, 1 ≤ o.length) (hp : prodL l ≤ 5000) {cl : Nat → Nat → Nat → Nat → Bool} (B : List TJointRefuted) : ∀ (A : List TJointRefuted) (p : Option (List Int)) (z : Nat), (∀ r ∈ A, goodF l cl r = true ∧ r.Choice.length ≤ 6) → (∀ a, p = some a → a.length ≤ 100 ∧ ∀ r ∈ A, Before a r.Choice) → A.Pairwise (fun a b => Before a.Choice b.Choice) →
    sumW l A ≤ z → z ≤ 5000 → rfdT n l cl p (A ++ B) (z : Int) = rfdT n l cl (match A.getLast? with | none => p | some r => some r.Choice) B ((z - sumW l A : Nat) : Int)
  | [], p, z, _, _, _, _, _ => by simp [sumW]
  | r :: A, p, z, hg, hb, hs, hz, h5 => by
    have e : sumW l (r :: A) = prodL (l.drop r.Choice.length) + sumW l A := by simp [sumW]
    rw [e] at hz ⊢
    rw [List.cons_append, rfd_step hn hl h1 hp (hg r (by simp)).1 (fun a ha => ⟨(hb a ha).1, (hb a ha).2 r (by simp)⟩) (by omega) h5]
    rw [rfd_app hn hl h1 hp B A (some r.Choice) _ (fun r hr => hg r (by simp [hr])) (fun a ha => by cases ha; exact ⟨by have := (hg r (by simp)).2; omega, (List.pairwise_cons.1 hs).1⟩) (List.pairwise_cons.1 hs).2 (by omega) (by omega)]
    have e2 : z - prodL (l.drop r.Choice.length) - sumW l A = z - (prodL (l.drop r.Choice.length) + sumW l A) := by omega
    rw [e2]
    cases A with
    | nil => rfl
    | cons a A =>
      rw [List.getLast?_cons_cons]
      cases hgl : (a :: A).getLast? with
      | none => exact absurd hgl (by simp)
      | some y => rfl
theorem rfd_twice {n : Nat} (hn : big n) {l : List (List TJointOption)} {cl : Nat → Nat → Nat → Nat → Bool} {x : TJointRefuted} (hg : goodF l cl x = true) (hx : x.Choice.length ≤ 6) (B : List TJointRefuted) (z : Int) : rfdT n l cl (some x.Choice) (x :: B) z = some 1 := by
  show (if goodF l cl x = false then some 1 else _) = _
  rw [if_neg (by rw [hg]; exact Bool.noConfusion)]
  simp only
  rw [self_cmp n x.Choice (by omega) (by unfold big at hn; omega)]
  simp
theorem rfd_bad {n : Nat} {l : List (List TJointOption)} {cl : Nat → Nat → Nat → Nat → Bool} {x : TJointRefuted} (hg : goodF l cl x = false) (p : Option (List Int)) (B : List TJointRefuted) (z : Int) : rfdT n l cl p (x :: B) z = some 1 := by
  show (if goodF l cl x = false then some 1 else _) = _
  rw [if_pos hg]
theorem good_with {l : List (List TJointOption)} {cl : Nat → Nat → Nat → Nat → Bool} {r : TJointRefuted} (h : ¬ r.With < (r.Choice.length : Int) - 1) : goodF l cl r = false := by
  unfold goodF
  rw [decide_eq_false h]
  simp
theorem prodM_jok {n : Nat} {l : List (List TJointOption)} (h : ∀ o ∈ l, 1 ≤ o.length ∧ o.length ≤ 8 ∧ ∀ x ∈ o, OptOk n x) : prodM l = prodL l := by
  induction l with
  | nil => rfl
  | cons o l ih =>
    have := h o (by simp)
    have e : max 1 (min o.length 9) = o.length := by omega
    simp only [prodM, prodL, e]
    rw [ih (fun o ho => h o (by simp [ho]))]
theorem needs_law (n : Nat) (hn : big n) (l : List (List TJointOption)) (s : TSep) (ii by_ : Int) (hl : l.length ≤ 9223372036854775807) (hln : l.length < n) (ho : ∀ o ∈ l, o.length ≤ 9223372036854775807 ∧ o.length < n) : g5 n l s ii by_ = some true := by
  unfold g5
  rw [show g7 n = some true from rfl, Option.bind_some, Bool.not_true, cond_false]
  rcases few_cases n hn l hl hln ho with ⟨e, hfew⟩ | e
  case inr => rw [e]; rfl
  rw [e, Option.bind_some, Bool.not_true, cond_false]
  rcases jerr n hn l s with ⟨z, hz, -, h1⟩ | ⟨hs, hc, hj⟩
  · rw [h1, Option.bind_some, bne_iff_ne.2 hz]; rfl
  rcases refute_val hn hj hc hs with ⟨hr, -⟩ | ⟨hr, hno⟩
  · rw [hr]; rfl
  rw [hr, Option.bind_some, show ((0 : Int) != 0) = false from rfl, cond_false]
  simp only
  have hgood := refs_good (s := s) hj
  have hpw := refs_pw (evs_sorted (n := n) (l := l) (s := s))
  have hsum : sumW l (refs (evs n l s)) = prodL l := by
    unfold sumW
    rw [refs_sum _ hno]
    exact evs_count
  have hlenR : (refs (evs n l s)).length ≤ 200 := by
    have h1 := refs_len (E := evs n l s)
    have h2 := evs_len (s := s) hj
    rw [prodM_jok hj.each] at hfew
    omega
  generalize refs (evs n l s) = R at *
  by_cases hR0 : R.length = 0
  · rw [show ((R.length : Int) == 0) = true by simp [hR0], cond_true]
  rw [show ((R.length : Int) == 0) = false by simp; exact fun h => hR0 (by simp [h]), cond_false]
  obtain ⟨p, hp, hpl⟩ := pick_tot n ii R.length (by omega) (by omega)
  obtain ⟨q, hq, hql⟩ := pick_tot n by_ 5 (by omega) (by omega)
  have hx : R[p]? = some R[p] := List.getElem?_eq_getElem hpl
  have hroom : roomO R.length 32 = some () := room_of (by omega) (by omega)
  have hgx := hgood _ (List.getElem_mem hpl)
  generalize hxe : R[p] = x at *
  have hdel : delO 32 R (p : Int) (((p + 1 : Nat) : Int)) = some (R.take p ++ R.drop (p + 1)) := by
    unfold delO
    rw [if_pos ⟨by omega, by omega, by omega, by omega, by omega⟩, Int.toNat_natCast, Int.toNat_natCast]
  have hins : insO 32 R (p : Int) [x] = some (R.take p ++ [x] ++ R.drop p) := by
    unfold insO
    rw [if_pos ⟨by omega, by omega, by simp, by simp; omega, by simp; omega⟩, Int.toNat_natCast]
  have hq5 : g14 n by_ 5 = some (q : Int) := hq
  have hlen2 : 2 ≤ x.Choice.length := by
    have := hgx.1
    refine Decidable.byContradiction fun hh => ?_
    unfold goodF at this
    rw [decide_eq_false hh] at this
    simp at this
  have w1 : IntKind.wrap .i64 ((x.Choice.length : Int) - 1) = (x.Choice.length : Int) - 1 := wrap64 (by omega) (by omega)
  have w2 : IntKind.wrap .i64 ((x.Choice.length : Int) - 1 + (q : Int)) = (x.Choice.length : Int) - 1 + (q : Int) := wrap64 (by omega) (by omega)
  rw [hp, Option.bind_some, hroom, Option.bind_some, wS (by omega), hdel, Option.bind_some, Option.bind_some, getI_at hx, Option.bind_some, hins, Option.bind_some, Option.bind_some, Option.bind_some, hq5, Option.bind_some, Option.bind_some, w1, w2, Int.toNat_natCast]
  have hp5 := hj.prod
  have h1 : ∀ o ∈ l, 1 ≤ o.length := fun o ho => (hj.each o ho).1
  have hRe : R = R.take p ++ x :: R.drop (p + 1) := by
    rw [← hxe, List.getElem_cons_drop, List.take_append_drop]
  have hdp : R.drop p = x :: R.drop (p + 1) := by rw [← hxe, List.getElem_cons_drop]
  have hset : R.set p ⟨x.Choice, (x.Choice.length : Int) - 1 + (q : Int)⟩ = R.take p ++ ⟨x.Choice, (x.Choice.length : Int) - 1 + (q : Int)⟩ :: R.drop (p + 1) := List.set_eq_take_append_cons_drop .. |>.trans (if_pos hpl)
  have hgA : ∀ r ∈ R.take p, goodF l (clF n l s) r = true ∧ r.Choice.length ≤ 6 := fun r hr => hgood r (List.mem_of_mem_take hr)
  have hgB : ∀ r ∈ R.drop (p + 1), goodF l (clF n l s) r = true ∧ r.Choice.length ≤ 6 := fun r hr => hgood r (List.mem_of_mem_drop hr)
  have hsA : sumW l (R.take p) + (prodL (l.drop x.Choice.length) + sumW l (R.drop (p + 1))) = prodL l := by
    rw [← hsum]
    conv => rhs; rw [hRe]
    rw [sumW_append]
    simp [sumW]
  have hwx : 1 ≤ prodL (l.drop x.Choice.length) := prodL_pos (fun o ho => h1 o (List.mem_of_mem_drop ho))
  have hless : g11 n l s (R.take p ++ R.drop (p + 1)) = some 1 := by
    rw [refuted_val hn hj hc hs _ (by simp; omega)]
    have hsub : (R.take p ++ R.drop (p + 1)).Sublist R := by
      conv => rhs; rw [hRe]
      exact List.Sublist.append_left (List.sublist_cons_self ..) _
    have := rfd_pass hn hj.len h1 hp5 (cl := clF n l s) (R.take p ++ R.drop (p + 1)) none (prodL (l.drop x.Choice.length)) (fun r hr => hgood r (hsub.subset hr)) (fun a ha => by cases ha) (hpw.sublist hsub) (by
      have : sumW l (R.take p ++ R.drop (p + 1)) = _ := sumW_append l _ _
      unfold sumW at this hsA
      rw [this]; omega)
    have e : ((R.take p ++ R.drop (p + 1)).map fun r => prodL (l.drop r.Choice.length)).sum + prodL (l.drop x.Choice.length) = prodL l := by
      have : sumW l (R.take p ++ R.drop (p + 1)) = _ := sumW_append l _ _
      unfold sumW at this hsA
      rw [this]; omega
    rw [e] at this
    rw [this, if_pos (by omega)]
  have hA1 : R.take p ++ [x] = R.take (p + 1) := by rw [List.take_succ_eq_append_getElem hpl, hxe]
  have htwice : g11 n l s (R.take p ++ [x] ++ R.drop p) = some 1 := by
    rw [refuted_val hn hj hc hs _ (by simp; omega)]
    rw [rfd_app hn hj.len h1 hp5 (R.drop p) (R.take p ++ [x]) none (prodL l) (fun r hr => hgood r (by rw [hA1] at hr; exact List.mem_of_mem_take hr)) (fun a ha => by cases ha) (by rw [hA1]; exact hpw.sublist (List.take_sublist _ _)) (by rw [sumW_append]; simp only [sumW, List.map_cons, List.map_nil, List.sum_cons, List.sum_nil] at hsA ⊢; omega) hp5]
    rw [List.getLast?_append, List.getLast?_singleton, Option.some_or, hdp]
    exact rfd_twice hn hgx.1 hgx.2 _ _
  have hother : g11 n l s (R.set p ⟨x.Choice, (x.Choice.length : Int) - 1 + (q : Int)⟩) = some 1 := by
    rw [refuted_val hn hj hc hs _ (by simp; omega), hset]
    rw [rfd_app hn hj.len h1 hp5 _ (R.take p) none (prodL l) hgA (fun a ha => by cases ha) (hpw.sublist (List.take_sublist _ _)) (by omega) hp5]
    exact rfd_bad (good_with (by simp only; omega)) _ _ _
  generalize R.take p ++ R.drop (p + 1) = less at *
  generalize R.take p ++ [x] ++ R.drop p = twice at *
  generalize R.set p ⟨x.Choice, (x.Choice.length : Int) - 1 + (q : Int)⟩ = other at *
  refine iterO_eq (fun y => ∃ i : Nat, i ≤ 3 ∧ y = ((i : Int), less, twice, other)) true (fun y => 3 - y.1.toNat) ?_ n _ ⟨0, by omega, rfl⟩ (by unfold big at hn; show 3 - (0 : Int).toNat < n; omega)
  rintro _ ⟨i, hi, rfl⟩
  simp only
  unfold S5_0
  rw [show (⟨s.Lateral, s.Vertical⟩ : TSep) = s from rfl, hless, htwice, hother]
  match i, hi with
  | 0, _ => exact .inl ⟨_, rfl, ⟨1, by omega, rfl⟩, by show 3 - (1 : Int).toNat < 3 - (0 : Int).toNat; decide⟩
  | 1, _ => exact .inl ⟨_, rfl, ⟨2, by omega, rfl⟩, by show 3 - (2 : Int).toNat < 3 - (1 : Int).toNat; decide⟩
  | 2, _ => exact .inl ⟨_, rfl, ⟨3, by omega, rfl⟩, by show 3 - (3 : Int).toNat < 3 - (2 : Int).toNat; decide⟩
  | 3, _ => exact .inr rfl
theorem needs_all (l : List (List TJointOption)) (s : TSep) (ii by_ : Int) (hl : l.length ≤ 9223372036854775807) (ho : ∀ o ∈ l, o.length ≤ 9223372036854775807) : g5 10000000000000000000 l s ii by_ = some true :=
  needs_law _ (by unfold big; decide) l s ii by_ hl (by omega) (fun o h => ⟨ho o h, by have := ho o h; omega⟩)
end Go.Proofs.Ytlgbioidkbeanaa
