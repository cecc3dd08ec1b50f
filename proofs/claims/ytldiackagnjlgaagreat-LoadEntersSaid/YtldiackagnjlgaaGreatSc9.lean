/- Loads: the entries are the visits of each flight. -/
import Derived.Test.YtldiackagnjlgaaGreatScL
import Derived.Test.YtldiackagnjlgaaGreatSc5
set_option linter.unusedVariables false
set_option linter.unusedSimpArgs false
namespace Go.Proofs.YtldiackagnjlgaaGreat

theorem iter_seq {ρ β : Type} {S : Int × β → Option ((Int × β) ⊕ ρ)} (k : Nat) (Y : Nat → β) (z : ρ) (h : ∀ i : Nat, i < k → S ((i : Int), Y i) = some (.inl (((i + 1 : Nat) : Int), Y (i + 1)))) (h0 : S ((k : Int), Y k) = some (.inr z)) (n : Nat) (hn : k < n) (y0 : β) (hy : y0 = Y 0) : iterO S n ((0 : Int), y0) = some z := by
  subst hy
  refine iterO_eq (fun y => ∃ i : Nat, i ≤ k ∧ y = ((i : Int), Y i)) z (fun y => k - y.1.toNat) ?_ n _ ⟨0, Nat.zero_le _, rfl⟩ (by show k - (0 : Int).toNat < n; omega)
  rintro _ ⟨i, hi, rfl⟩
  rcases Nat.lt_or_ge i k with hlt | hge
  · exact .inl ⟨_, h i hlt, ⟨i + 1, hlt, rfl⟩, by show k - ((i + 1 : Nat) : Int).toNat < k - (i : Int).toNat; omega⟩
  · have : i = k := by omega
    subst this
    exact .inr h0
theorem path_len {m : Nat} {a b : Int} {r : List TSectorVisit} (hV : VInv m a b r) : (r.length : Int) ≤ b - a + 1 := by
  have hrp : 0 < r.length := List.length_pos_iff.2 hV.ne
  have key : ∀ (i : Nat) (v : TSectorVisit), r[i]? = some v → a + (i : Int) ≤ v.From := by
    intro i
    induction i with
    | zero => intro v hv; rw [hV.first v hv]; omega
    | succ i ih =>
      intro v hv
      have hlt := some_lt hv
      have hw : r[i]? = some r[i] := List.getElem?_eq_getElem (by omega)
      have k1 := ih _ hw
      have k2 := (hV.next i v _ hw hv).1
      have k3 := hV.each i _ hw
      omega
  have hv : r[r.length - 1]? = some r[r.length - 1] := List.getElem?_eq_getElem (by omega)
  have k1 := key _ _ hv
  have k2 := hV.each _ _ hv
  omega
def tab (m : Nat) (f : Nat → Int) : List Int := (List.range m).map f
theorem tab_len (m : Nat) (f : Nat → Int) : (tab m f).length = m := by simp [tab]
theorem tab_at {m : Nat} {f : Nat → Int} {k : Nat} (h : k < m) : (tab m f)[k]? = some (f k) := by simp [tab, h]
theorem tab_set (m : Nat) (f g : Nat → Int) (k : Nat) (x : Int) (h : ∀ s, g s = if s = k then x else f s) : (tab m f).set k x = tab m g := by
  apply List.ext_getElem?
  intro s
  rw [List.getElem?_set]
  by_cases hs : s < m
  · rw [tab_at (f := g) hs, tab_at hs, h s, tab_len]
    by_cases e : s = k
    · subst e; simp [hs]
    · rw [if_neg (Ne.symm e), if_neg e]
  · have h1 : ∀ f : Nat → Int, (tab m f)[s]? = none := fun f => List.getElem?_eq_none (by rw [tab_len]; omega)
    rw [h1 g, h1 f, tab_len]
    by_cases e : k = s
    · subst e; simp [hs]
    · rw [if_neg e]
def cv (F : List TSectorVisit) (s : Nat) : Int := (F.countP (fun v => v.Sector == (s : Int)) : Nat)
theorem cv_app (F G : List TSectorVisit) (s : Nat) : cv (F ++ G) s = cv F s + cv G s := by unfold cv; rw [List.countP_append]; omega
theorem cv_one (v : TSectorVisit) (s : Nat) : cv [v] s = if v.Sector = (s : Int) then 1 else 0 := by
  unfold cv
  by_cases h : v.Sector = (s : Int) <;> simp [h]
theorem cv_le (F : List TSectorVisit) (s : Nat) : 0 ≤ cv F s ∧ cv F s ≤ (F.length : Int) := by
  unfold cv
  have := List.countP_le_length (p := fun v : TSectorVisit => v.Sector == (s : Int)) (l := F)
  omega
theorem cv_next {r : List TSectorVisit} {i : Nat} {v : TSectorVisit} (h : r[i]? = some v) (s : Nat) : cv (r.take (i + 1)) s = cv (r.take i) s + if v.Sector = (s : Int) then 1 else 0 := by
  rw [List.take_add_one, h, cv_app, show (some v).toList = [v] from rfl, cv_one]
def GoodP (n : Nat) (l : List TSector) (t : List TTubeNode) (r : List TSectorVisit) : Prop := g8 n l t = some (r, 0) ∧ r.length ≤ 401 ∧ ∀ v ∈ r, -1 ≤ v.Sector ∧ v.Sector < (l.length : Int)
def vis (n : Nat) (l : List TSector) (t : List TTubeNode) : List TSectorVisit := match g8 n l t with | some r => r.1 | none => []
theorem GoodP.vis {n : Nat} {l : List TSector} {t : List TTubeNode} {r : List TSectorVisit} (h : GoodP n l t r) : vis n l t = r := by unfold Proofs.YtldiackagnjlgaaGreat.vis; rw [h.1]
def flat (n : Nat) (l : List TSector) (ts : List (List TTubeNode)) (i : Nat) : List TSectorVisit := (ts.take i).flatMap (vis n l)
theorem flat_next {n : Nat} {l : List TSector} {ts : List (List TTubeNode)} {i : Nat} {t : List TTubeNode} (h : ts[i]? = some t) : flat n l ts (i + 1) = flat n l ts i ++ vis n l t := by
  unfold flat
  rw [List.take_add_one, h, List.flatMap_append]
  simp
theorem flat_len {n : Nat} {l : List TSector} {ts : List (List TTubeNode)} (hg : ∀ t ∈ ts, (vis n l t).length ≤ 401) : ∀ i : Nat, i ≤ ts.length → (flat n l ts i).length ≤ 401 * i
  | 0, _ => by simp [flat]
  | i + 1, h => by
    have hx : ts[i]? = some ts[i] := List.getElem?_eq_getElem (by omega)
    rw [flat_next hx, List.length_append]
    have h1 := flat_len hg i (by omega)
    have h2 := hg _ (List.mem_of_getElem? hx)
    omega
theorem path_small (l : List TSector) (t : List TTubeNode) (hs : ∀ x0 x1, t[0]? = some x0 → t[t.length - 1]? = some x1 → x1.Node_Time - x0.Node_Time ≤ 400) : (∃ z, z ≠ 0 ∧ g8 5000 l t = some ([], z)) ∨ ∃ r, GoodP 5000 l t r := by
  rcases path_cases 5000 (by omega) l t with h | ⟨hl, ht, hc, r, hr, e⟩
  · exact .inl h
  right
  have hp := ht.pos
  have h0 : t[0]? = some t[0] := List.getElem?_eq_getElem (by omega)
  have h1 : t[t.length - 1]? = some t[t.length - 1] := List.getElem?_eq_getElem (by omega)
  obtain ⟨r', hr', hV⟩ := visits_val 5000 (by omega) l hl t ht hc _ _ h0 h1
  rw [hr] at hr'
  cases hr'
  have k1 := path_len hV
  have k2 := hs _ _ h0 h1
  refine ⟨r, e, by omega, fun v hv => ?_⟩
  obtain ⟨i, hi⟩ := List.getElem?_of_mem hv
  have := hV.each i v hi
  omega
theorem up_loop (l : List TSector) (ts : List (List TTubeNode)) (j : Nat) (r : List TSectorVisit) (hr : r.length ≤ 401) (hs : ∀ v ∈ r, -1 ≤ v.Sector ∧ v.Sector < (l.length : Int)) (hj : j < 100) (F : List TSectorVisit) (hF : F.length ≤ 100000) :
    iterO (fun y : Int × List Int => S7_0_0 5000 l (0) ts (ts.length : Int) (j : Int) r (r.length : Int) y.1 y.2) 5000 ((0), tab l.length (cv F)) = some (.inl (((j + 1 : Nat) : Int), tab l.length (cv (F ++ r)))) := by
  refine iter_seq r.length (fun i => tab l.length (cv (F ++ r.take i))) _ ?_ ?_ 5000 (by omega) _ (by simp)
  · intro i hi
    have hv : r[i]? = some r[i] := List.getElem?_eq_getElem hi
    generalize r[i] = v at hv
    have hb := hs v (List.mem_of_getElem? hv)
    show S7_0_0 5000 l (0) ts (ts.length : Int) (j : Int) r (r.length : Int) (i : Int) (tab l.length (cv (F ++ r.take i))) = _
    unfold S7_0_0
    rw [decide_eq_true (show (i : Int) < _ by omega), cond_true, getI_at hv, Option.bind_some, wS (by omega)]
    by_cases h : v.Sector ≥ 0
    · obtain ⟨k, hk⟩ : ∃ k : Nat, v.Sector = (k : Int) := ⟨v.Sector.toNat, by omega⟩
      have hkl : k < l.length := by omega
      have hc := cv_le (F ++ r.take i) k
      have hln : (F ++ r.take i).length ≤ 100401 := by rw [List.length_append, List.length_take]; omega
      rw [decide_eq_true h, cond_true, hk, getI_at (tab_at hkl), Option.bind_some, Option.bind_some, Int.toNat_natCast, wrap64 (by omega) (by omega), tab_set _ _ (cv (F ++ r.take (i + 1))) _ _ (fun s => by
        rw [cv_app, cv_next hv, hk, cv_app F, cv_app F]
        by_cases e : s = k
        · subst e; rw [if_pos rfl, if_pos rfl]; omega
        · rw [if_neg (by omega), if_neg e]; omega)]
    · rw [decide_eq_false h, cond_false]
      have : cv (F ++ r.take (i + 1)) = cv (F ++ r.take i) := by
        funext s
        rw [cv_app, cv_next hv, cv_app, if_neg (by omega)]; omega
      rw [this]
  · show S7_0_0 5000 l (0) ts (ts.length : Int) (j : Int) r (r.length : Int) (r.length : Int) _ = _
    unfold S7_0_0
    rw [decide_eq_false (Int.lt_irrefl _), cond_false, wS (by omega), List.take_length]
theorem tab_zero (m : Nat) : List.replicate m (0 : Int) = tab m (cv []) := by
  unfold tab
  apply List.ext_getElem?
  intro s
  by_cases h : s < m
  · simp [h, cv]
  · rw [List.getElem?_eq_none (by simp; omega), List.getElem?_eq_none (by simp; omega)]
theorem entries_val (l : List TSector) (ts : List (List TTubeNode)) (hts : ts.length ≤ 6) (hs : ∀ t ∈ ts, ∀ x0 x1, t[0]? = some x0 → t[t.length - 1]? = some x1 → x1.Node_Time - x0.Node_Time ≤ 400) : (∃ z, z ≠ 0 ∧ g7 5000 l ts = some ([], z)) ∨ (l.length ≤ 64 ∧ (∀ t ∈ ts, ∃ r, GoodP 5000 l t r) ∧ g7 5000 l ts = some (tab l.length (cv (flat 5000 l ts ts.length)), 0)) := by
  obtain ⟨z, hz, kz⟩ := load_check 5000 (by omega) l ts
  unfold g7
  rw [hz, Option.bind_some]
  by_cases z0 : z = 0
  case neg => rw [bne_iff_ne.2 z0, cond_true]; exact .inl ⟨z, z0, rfl⟩
  obtain ⟨hl, -, -⟩ := kz z0
  have hlen := hl.len
  rw [z0, show ((0 : Int) != 0) = false from rfl, cond_false]
  have hm : makeO (l.length : Int) 8 = some l.length := by
    unfold makeO
    rw [if_pos ⟨by omega, by omega, by omega⟩]; simp
  rw [hm, Option.bind_some, tab_zero]
  obtain ⟨r, hr, hQ⟩ := iterO_rule (S := fun y : Int × List Int => S7_0 5000 l (0) ts (ts.length : Int) y.1 y.2) (fun y => ∃ i : Nat, y = ((i : Int), tab l.length (cv (flat 5000 l ts i))) ∧ i ≤ ts.length ∧ ∀ t ∈ ts.take i, ∃ r, GoodP 5000 l t r)
    (fun r => (∃ z, z ≠ 0 ∧ r = ([], z)) ∨ ((∀ t ∈ ts, ∃ r, GoodP 5000 l t r) ∧ r = (tab l.length (cv (flat 5000 l ts ts.length)), 0))) (fun y => ts.length - y.1.toNat) (by
    rintro _ ⟨i, rfl, hi, hg⟩
    show (∃ y, S7_0 5000 l (0) ts (ts.length : Int) (i : Int) (tab l.length (cv (flat 5000 l ts i))) = some (.inl y) ∧ _ ∧ _) ∨ ∃ r, S7_0 5000 l (0) ts (ts.length : Int) (i : Int) (tab l.length (cv (flat 5000 l ts i))) = some (.inr r) ∧ _
    unfold S7_0
    rcases Nat.lt_or_ge i ts.length with hlt | hge
    · have hx : ts[i]? = some ts[i] := List.getElem?_eq_getElem hlt
      generalize ts[i] = t at hx
      rw [decide_eq_true (show (i : Int) < _ by omega), cond_true, getI_at hx, Option.bind_some]
      rcases path_small l t (hs t (List.mem_of_getElem? hx)) with ⟨z, hz, e⟩ | ⟨r, hgr⟩
      · right
        rw [e, Option.bind_some]
        simp only [bne_iff_ne.2 hz, cond_true]
        exact ⟨_, rfl, .inl ⟨z, hz, rfl⟩⟩
      · left
        have hFl : (flat 5000 l ts i).length ≤ 100000 := by
          have hq : ∀ j : Nat, j ≤ i → (flat 5000 l ts j).length ≤ 401 * j := by
            intro j
            induction j with
            | zero => intro _; simp [flat]
            | succ j ih =>
              intro hji
              have hy : ts[j]? = some ts[j] := List.getElem?_eq_getElem (by omega)
              obtain ⟨q, hq⟩ := hg ts[j] (List.mem_of_getElem? (i := j) (by rw [List.getElem?_take, if_pos (by omega)]; exact hy))
              rw [flat_next hy, List.length_append, hq.vis]
              have := ih (by omega)
              have := hq.2.1
              omega
          have := hq i (Nat.le_refl _)
          omega
        rw [hgr.1, Option.bind_some]
        simp only [show ((0 : Int) != 0) = false from rfl, cond_false]
        rw [up_loop l ts i r hgr.2.1 hgr.2.2 (by omega) _ hFl]
        refine ⟨_, rfl, ⟨i + 1, by rw [flat_next hx, hgr.vis], hlt, fun t' ht' => ?_⟩, by show ts.length - ((i + 1 : Nat) : Int).toNat < ts.length - (i : Int).toNat; omega⟩
        rw [List.take_add_one, hx] at ht'
        rcases List.mem_append.1 ht' with k | k
        · exact hg t' k
        · simp at k; subst k; exact ⟨r, hgr⟩
    · right
      have hi' : i = ts.length := by omega
      subst hi'
      rw [decide_eq_false (Int.lt_irrefl _), cond_false]
      rw [List.take_length] at hg
      exact ⟨_, rfl, .inr ⟨hg, rfl⟩⟩) 5000 ((0), tab l.length (cv [])) ⟨0, by simp [flat], Nat.zero_le _, by simp⟩ (by show ts.length - (0 : Int).toNat < 5000; omega)
  rcases hQ with ⟨z, hz, rfl⟩ | ⟨hg, rfl⟩
  · exact .inl ⟨z, hz, hr⟩
  · exact .inr ⟨by omega, hg, hr⟩
theorem down_loop (l : List TSector) (ts : List (List TTubeNode)) (j : Nat) (r : List TSectorVisit) (hr : r.length ≤ 401) (hs : ∀ v ∈ r, -1 ≤ v.Sector ∧ v.Sector < (l.length : Int)) (hj : j < 100) (A F : List TSectorVisit) (hA : A.length ≤ 100000) (hF : F.length ≤ 100000) :
    iterO (fun y : Int × List Int => S3_0_0 5000 l false ts (ts.length : Int) (j : Int) r (r.length : Int) y.1 y.2) 5000 ((0), tab l.length (fun s => cv A s - cv F s)) = some (.inl (((j + 1 : Nat) : Int), tab l.length (fun s => cv A s - cv (F ++ r) s))) := by
  refine iter_seq r.length (fun i => tab l.length (fun s => cv A s - cv (F ++ r.take i) s)) _ ?_ ?_ 5000 (by omega) _ (by simp)
  · intro i hi
    have hv : r[i]? = some r[i] := List.getElem?_eq_getElem hi
    generalize r[i] = v at hv
    have hb := hs v (List.mem_of_getElem? hv)
    show S3_0_0 5000 l false ts (ts.length : Int) (j : Int) r (r.length : Int) (i : Int) (tab l.length (fun s => cv A s - cv (F ++ r.take i) s)) = _
    unfold S3_0_0
    rw [decide_eq_true (show (i : Int) < _ by omega), cond_true, getI_at hv, Option.bind_some, wS (by omega)]
    by_cases h : v.Sector < 0
    · rw [decide_eq_true h, cond_true]
      have : ∀ s, cv (F ++ r.take (i + 1)) s = cv (F ++ r.take i) s := by
        intro s
        rw [cv_app, cv_next hv, cv_app, if_neg (by omega)]; omega
      simp only [this]
    · obtain ⟨k, hk⟩ : ∃ k : Nat, v.Sector = (k : Int) := ⟨v.Sector.toNat, by omega⟩
      have hkl : k < l.length := by omega
      have hc := cv_le (F ++ r.take i) k
      have hc2 := cv_le A k
      have hln : (F ++ r.take i).length ≤ 100401 := by rw [List.length_append, List.length_take]; omega
      rw [decide_eq_false h, cond_false, tab_len, decide_eq_false (show ¬ v.Sector ≥ (l.length : Int) by omega), cond_false, hk, getI_at (tab_at hkl), Option.bind_some, Option.bind_some, Int.toNat_natCast, wrap64 (by omega) (by omega), tab_set _ _ (fun s => cv A s - cv (F ++ r.take (i + 1)) s) _ _ (fun s => by
        show cv A s - cv (F ++ r.take (i + 1)) s = _
        rw [cv_app, cv_next hv, hk, cv_app F, cv_app F]
        by_cases e : s = k
        · subst e; rw [if_pos rfl, if_pos rfl]; omega
        · rw [if_neg (by omega), if_neg e]; omega)]
  · show S3_0_0 5000 l false ts (ts.length : Int) (j : Int) r (r.length : Int) (r.length : Int) _ = _
    unfold S3_0_0
    rw [decide_eq_false (Int.lt_irrefl _), cond_false, wS (by omega), List.take_length]
theorem enters_law (l : List TSector) (ts : List (List TTubeNode)) : g3 5000 l ts = some true := by
  unfold g3
  rw [show g5 5000 = some true from rfl, Option.bind_some, Bool.not_true, cond_false]
  by_cases h6 : (ts.length : Int) > 6
  · have : g6 5000 ts 6 400 = some false := by
      unfold g6
      rw [decide_eq_true h6, cond_true]
    rw [this]; rfl
  rcases small_cases 5000 (by omega) ts 6 400 (by omega) (by omega) with ⟨hsm, hs⟩ | hsm
  case inr => rw [hsm]; rfl
  rw [hsm, Option.bind_some, Bool.not_true, cond_false]
  rcases entries_val l ts (by omega) (fun t ht => (hs t ht).2.2) with ⟨z, hz, e⟩ | ⟨hlen, hg, e⟩
  · rw [e, Option.bind_some]
    simp only [bne_iff_ne.2 hz, cond_true]
    rfl
  rw [e, Option.bind_some]
  simp only [show ((0 : Int) != 0) = false from rfl, cond_false]
  rw [tab_len, show ((l.length : Int) != (l.length : Int)) = false by simp, cond_false]
  have hfl : ∀ i : Nat, i ≤ ts.length → (flat 5000 l ts i).length ≤ 100000 := fun i hi => by
    have := flat_len (n := 5000) (l := l) (ts := ts) (fun t ht => by obtain ⟨r, hr⟩ := hg t ht; rw [hr.vis]; exact hr.2.1) i hi
    omega
  refine iter_seq ts.length (fun i => tab l.length (fun s => cv (flat 5000 l ts ts.length) s - cv (flat 5000 l ts i) s)) true ?_ ?_ 5000 (by omega) _ (by congr 1)
  · intro i hi
    have hx : ts[i]? = some ts[i] := List.getElem?_eq_getElem hi
    generalize ts[i] = t at hx
    obtain ⟨r, hr⟩ := hg t (List.mem_of_getElem? hx)
    show S3_0 5000 l false ts (ts.length : Int) (i : Int) _ = _
    unfold S3_0
    rw [decide_eq_true (show (i : Int) < _ by omega), cond_true, getI_at hx, Option.bind_some, hr.1, Option.bind_some]
    simp only [show ((0 : Int) != 0) = false from rfl, cond_false]
    rw [down_loop l ts i r hr.2.1 hr.2.2 (by omega) _ _ (hfl _ (Nat.le_refl _)) (hfl i (by omega)), flat_next hx, hr.vis]
  · show S3_0 5000 l false ts (ts.length : Int) (ts.length : Int) _ = _
    unfold S3_0
    rw [decide_eq_false (Int.lt_irrefl _), cond_false]
    have hz : tab l.length (fun s => cv (flat 5000 l ts ts.length) s - cv (flat 5000 l ts ts.length) s) = tab l.length (fun _ => 0) := by congr 1; funext s; omega
    have hi : g9 5000 (tab l.length (fun _ => 0)) = some false := by
      unfold g9 g25
      rw [index_loop (fun x : Int => x != 0) (tab l.length (fun _ => 0)) (by rw [tab_len]; omega) (S := fun y : Int => S25_0 5000 (tab l.length (fun _ => 0)) (0) ((tab l.length (fun _ => 0)).length : Int) y) (fun i x hx => by
        have hlt := some_lt hx
        rw [tab_len] at hlt
        show S25_0 5000 (tab l.length (fun _ => 0)) (0) ((tab l.length (fun _ => 0)).length : Int) (i : Int) = _
        unfold S25_0
        rw [decide_eq_true (show (i : Int) < _ by rw [tab_len]; omega), cond_true, getI_at hx, Option.bind_some, wS (by omega)]
        show (some (x != 0)).bind _ = _
        rw [Option.bind_some]
        cases (x != 0) <;> rfl) (by
        show S25_0 5000 (tab l.length (fun _ => 0)) (0) ((tab l.length (fun _ => 0)).length : Int) ((tab l.length (fun _ => 0)).length : Int) = _
        unfold S25_0
        rw [decide_eq_false (Int.lt_irrefl _), cond_false]) 5000 (by rw [tab_len]; omega), Option.bind_some]
      have hn : idxL (fun x : Int => x != 0) (tab l.length (fun _ => 0)) < 0 := by
        refine (idxL_neg _ _).2 fun x hx => ?_
        unfold tab at hx
        obtain ⟨_, -, rfl⟩ := List.mem_map.1 hx
        rfl
      rw [decide_eq_false (show ¬ idxL (fun x : Int => x != 0) (tab l.length (fun _ => 0)) ≥ 0 by omega)]
    rw [hz, hi]; rfl
end Go.Proofs.YtldiackagnjlgaaGreat
