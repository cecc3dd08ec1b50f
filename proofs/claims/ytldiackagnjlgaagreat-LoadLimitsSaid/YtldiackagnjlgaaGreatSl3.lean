/- LoadLimits as a plain program. -/
import Derived.Test.YtldiackagnjlgaaGreatSl2
import Derived.Test.YtldiackagnjlgaaGreatSf2
set_option linter.unusedVariables false
set_option linter.unusedSimpArgs false
namespace Go.Proofs.YtldiackagnjlgaaGreat


def inO (x : TLoadOver) : Prop := 0 ≤ x.From ∧ x.From ≤ 200001 ∧ 0 ≤ x.Sector ∧ x.Sector < 12
theorem cmpO_eq (n : Nat) (hn : 4 < n) (x y : TLoadOver) (hx : inO x) (hy : inO y) : g30 n x y = some (if x.From - y.From ≠ 0 then x.From - y.From else x.Sector - y.Sector) := by
  obtain ⟨x1, x2, x3, x4⟩ := hx
  obtain ⟨y1, y2, y3, y4⟩ := hy
  unfold g30
  rw [wrap64 (z := x.From - y.From) (by omega) (by omega), wrap64 (z := x.Sector - y.Sector) (by omega) (by omega)]
  have : g31 n [x.From - y.From, x.Sector - y.Sector] = some (if x.From - y.From ≠ 0 then x.From - y.From else x.Sector - y.Sector) := by
    unfold g31
    obtain ⟨k, rfl⟩ : ∃ k, n = k + 3 := ⟨n - 3, by omega⟩
    by_cases h : x.From - y.From ≠ 0
    · have h' : (x.From - y.From != 0) = true := by simpa using h
      simp [iterO, S31_0, getI, h', h]
    · have h' : (x.From - y.From != 0) = false := by simpa using h
      by_cases hc : x.Sector - y.Sector ≠ 0
      · have hc' : (x.Sector - y.Sector != 0) = true := by simpa using hc
        simp [iterO, S31_0, getI, h', h, hc', wrap64]
      · have hc' : (x.Sector - y.Sector != 0) = false := by simpa using hc
        have hc0 : x.Sector - y.Sector = 0 := by simpa using hc
        simp [iterO, S31_0, getI, h', h, hc', hc0, wrap64]
  rw [this]; rfl
theorem ltO_over (n : Nat) (hn : 4 < n) (x y : TLoadOver) (hx : inO x) (hy : inO y) : ltO (fun x y => g30 n x y) x y = true ↔ klt (keyO x) (keyO y) := by
  show decide ((g30 n x y).getD 0 < 0) = true ↔ (x.From < y.From ∨ x.From = y.From ∧ x.Sector < y.Sector)
  rw [cmpO_eq n hn x y hx hy, decide_eq_true_eq]
  show (if x.From - y.From ≠ 0 then x.From - y.From else x.Sector - y.Sector) < 0 ↔ _
  by_cases h : x.From - y.From ≠ 0
  · rw [if_pos h]; constructor <;> intro k <;> omega
  · rw [if_neg h]; constructor <;> intro k <;> omega
theorem sort_id (n : Nat) (hn : 4 < n) (K : List TLoadOver) (hb : ∀ e ∈ K, inO e) (hp : (K.map keyO).Pairwise klt) (hl : K.length ≤ 100000) : sortO (fun x y => g30 n x y) K = some K := by
  have hp' : K.Pairwise (fun a b => klt (keyO a) (keyO b)) := List.pairwise_map.1 hp
  have hlt : ∀ x ∈ K, ∀ y ∈ K, (ltO (fun x y => g30 n x y) x y = true ↔ klt (keyO x) (keyO y)) := fun x hx y hy => ltO_over n hn x y (hb x hx) (hb y hy)
  have hnot : ∀ x ∈ K, ∀ y ∈ K, klt (keyO x) (keyO y) → ltO (fun x y => g30 n x y) y x = false := fun x hx y hy k => by
    cases hq : ltO (fun x y => g30 n x y) y x with
    | false => rfl
    | true =>
      have k2 := (hlt y hy x hx).1 hq
      unfold klt at k k2
      omega
  refine isort_of_sorted ⟨fun x hx y hy => ⟨_, cmpO_eq n hn x y (hb x hx) (hb y hy)⟩, fun x hx y hy => ?_, fun x hx y hy h => hnot x hx y hy ((hlt x hx y hy).1 h), fun x hx y hy z hz h1 h2 => ?_⟩ (List.Perm.refl _) ?_ (by omega)
  · obtain ⟨i, hi, rfl⟩ := List.getElem_of_mem hx
    obtain ⟨j, hj, rfl⟩ := List.getElem_of_mem hy
    rcases Nat.lt_trichotomy i j with k | k | k
    · exact .inl ((hlt _ hx _ hy).2 (List.pairwise_iff_getElem.1 hp' i j hi hj k))
    · subst k; exact .inr (.inr rfl)
    · exact .inr (.inl ((hlt _ hy _ hx).2 (List.pairwise_iff_getElem.1 hp' j i hj hi k)))
  · have k1 := (hlt x hx y hy).1 h1
    have k2 := (hlt y hy z hz).1 h2
    refine (hlt x hx z hz).2 ?_
    unfold klt at *
    omega
  · exact hp'.imp_of_mem fun {a b} ha hb' k => hnot a ha b hb' k
theorem find_over (n : Nat) (K : List TLoadOver) (hl : K.length ≤ 26000) (hn : 26000 < n) (i : Int) : g14 n K i = some (idxL (fun e : TLoadOver => e.Sector == i) K) := by
  unfold g14
  refine index_loop (fun e : TLoadOver => e.Sector == i) K (by omega) (S := fun y : Int => S14_0 n K i (0) (K.length : Int) y) (fun j x hx => ?_) ?_ n (by omega)
  · have hlt := some_lt hx
    show S14_0 n K i (0) (K.length : Int) (j : Int) = _
    unfold S14_0
    rw [decide_eq_true (show (j : Int) < _ by omega), cond_true, getI_at hx, Option.bind_some, wS (by omega)]
    show (some (x.Sector == i)).bind _ = _
    rw [Option.bind_some]
    cases x.Sector == i <;> rfl
  · show S14_0 n K i (0) (K.length : Int) (K.length : Int) = _
    unfold S14_0
    rw [decide_eq_false (Int.lt_irrefl _), cond_false]
theorem limits_law (l : List TSector) (ts : List (List TTubeNode)) (s : TSpan) : g4 30001 l ts s = some true := by
  unfold g4
  rw [show g5 30001 = some true from rfl, Option.bind_some, Bool.not_true, cond_false]
  by_cases h6 : (ts.length : Int) > 6
  · have : g6 30001 ts 6 400 = some false := by
      unfold g6
      rw [decide_eq_true h6, cond_true]
    rw [this]; rfl
  rcases small_cases 30001 (by omega) ts 6 400 (by omega) (by omega) with ⟨hsm, -⟩ | hsm
  case inr => rw [hsm]; rfl
  rw [hsm, Option.bind_some, Bool.not_true, cond_false]
  rcases peaks_cases 30001 (by omega) l ts s with ⟨z, hz, e⟩ | ⟨hc, hsp, hl, hts, hok, hb, e⟩
  · rw [e, Option.bind_some]
    simp only [bne_iff_ne.2 hz, cond_true]
    rfl
  have hlen := hl.len
  rw [e, Option.bind_some]
  simp only [show ((0 : Int) != 0) = false from rfl, cond_false, tab_len]
  by_cases hm0 : l.length = 0
  · rw [hm0]; rfl
  rw [show ((l.length : Int) == 0) = false from beq_eq_false_iff_ne.2 (by omega), cond_false]
  have hcb : ∀ t i, 0 ≤ ccs 30001 l t ts i := fun t i => (ccs_le 30001 l t ts i).1
  have hcu : ∀ t i, ccs 30001 l t ts i ≤ 24 := fun t i => by have := (ccs_le 30001 l t ts i).2; omega
  have hP := pk_inv (fun t i => ccs 30001 l t ts i) l.length s.From (s.To - s.From).toNat
  have hT : s.From + ((s.To - s.From).toNat : Int) = s.To := by omega
  rw [hT] at hP
  generalize (pk (fun t i => ccs 30001 l t ts i) l.length s.From (s.To - s.From).toNat).1 = f at hP
  generalize (pk (fun t i => ccs 30001 l t ts i) l.length s.From (s.To - s.From).toNat).2 = g at hP
  have hsort0 : sortO (fun x y => g30 30001 x y) (ov (fun t i => ccs 30001 l t ts i) f l.length s.From (s.To - s.From).toNat).1 = some [] := by
    rw [ov_none _ f l.length s.From (s.To - s.From).toNat (fun t h1 h2 i hi => (hP i hi).all t h1 (by omega)) _ (Nat.le_refl _)]
    exact sort_id 30001 (by omega) [] (fun e he => by simp at he) List.Pairwise.nil (by simp)
  rw [over_val 30001 (by omega) l ts s hc hsp hl hts hok hb f [] hsort0, Option.bind_some]
  have hroom : roomO l.length 8 = some () := room_of (by omega) (by omega)
  rw [hroom, Option.bind_some]
  have hfb : ∀ i, i < l.length → 0 ≤ f i ∧ f i ≤ 24 := fun i hi => by
    have h := hP i hi
    refine ⟨h.lo, ?_⟩
    rcases h.at_ with ⟨k, -⟩ | ⟨-, -, k⟩
    · omega
    · rw [← k]; exact hcu _ _
  have hgb : ∀ i, i < l.length → s.From ≤ g i ∧ g i < s.To := fun i hi => by
    have h := hP i hi
    rcases h.at_ with ⟨-, k⟩ | ⟨k1, k2, -⟩ <;> omega
  refine iter_seq l.length (fun w => tab l.length (fun i => if i < w then f i - 1 else f i)) true ?_ ?_ 30001 (by omega) _ (by simp)
  · intro w hw
    have hfw := hfb w hw
    show S4_0 30001 l ts false (tab l.length f) (tab l.length g) [] (0) (l.length : Int) s.From s.To (w : Int) (tab l.length (fun i => if i < w then f i - 1 else f i)) = _
    unfold S4_0
    rw [decide_eq_true (show (w : Int) < _ by omega), cond_true, getI_at (tab_at hw), Option.bind_some, Option.bind_some, if_neg (Nat.lt_irrefl _), wS (by omega), Int.toNat_natCast, wrap64 (by omega) (by omega), tab_set _ _ (fun i => if i < w + 1 then f i - 1 else f i) _ _ (fun i => by
      by_cases e : i = w
      · subst e; rw [if_pos rfl, if_pos (by omega)]
      · rw [if_neg e]
        by_cases q : i < w
        · rw [if_pos q, if_pos (by omega)]
        · rw [if_neg q, if_neg (by omega)])]
  · have hM : ∀ i, i < l.length → (if i < l.length then f i - 1 else f i) = f i - 1 := fun i hi => by rw [if_pos hi]
    show S4_0 30001 l ts false (tab l.length f) (tab l.length g) [] (0) (l.length : Int) s.From s.To (l.length : Int) (tab l.length (fun i => if i < l.length then f i - 1 else f i)) = _
    have hI := ovI_all (fun t i => ccs 30001 l t ts i) (fun i => if i < l.length then f i - 1 else f i) l.length s.From (g := g) (fun i hi => (hgb i hi).1) (fun i hi t h1 h2 => by
      show _ ≤ (if i < l.length then f i - 1 else f i)
      rw [hM i hi]
      have := (hP i hi).pre t h1 h2
      omega) (fun i hi => by
      show (if i < l.length then f i - 1 else f i) < _
      rw [hM i hi]
      rcases (hP i hi).at_ with ⟨k, -⟩ | ⟨-, -, k⟩
      · have := hcb (g i) i; omega
      · have k : ccs 30001 l (g i) ts i = f i := k
        omega) (by omega) (s.To - s.From).toNat
    have hA := ovA_all (fun t i => ccs 30001 l t ts i) (fun i => if i < l.length then f i - 1 else f i) l.length s.From (by omega) (s.To - s.From).toNat
    have hsort : sortO (fun x y => g30 30001 x y) (ov (fun t i => ccs 30001 l t ts i) (fun i => if i < l.length then f i - 1 else f i) l.length s.From (s.To - s.From).toNat).1 = some (ov (fun t i => ccs 30001 l t ts i) (fun i => if i < l.length then f i - 1 else f i) l.length s.From (s.To - s.From).toNat).1 := by
      refine sort_id 30001 (by omega) _ (fun e he => ?_) hI.ord ?_
      · obtain ⟨k1, k2, k3, k4⟩ := hI.ent (keyO e) (List.mem_map_of_mem he)
        have k1 : 0 ≤ e.Sector := k1
        have k2 : e.Sector < (l.length : Int) := k2
        have k3 : s.From ≤ e.From := k3
        have k4 : e.From < s.From + ((s.To - s.From).toNat : Int) ∨ (e.From = s.From + ((s.To - s.From).toNat : Int) ∧ e.Sector < ((0 : Nat) : Int)) := k4
        exact ⟨by omega, by omega, k1, by omega⟩
      · have := hA.len; omega
    have hov := over_val 30001 (by omega) l ts s hc hsp hl hts hok hb (fun i => if i < l.length then f i - 1 else f i) _ hsort
    have hKl := hA.len
    obtain ⟨h1, h2, h3, h4, -⟩ := hI
    generalize (ov (fun t i => ccs 30001 l t ts i) (fun i => if i < l.length then f i - 1 else f i) l.length s.From (s.To - s.From).toNat).1 = K at h1 h2 h3 h4 hov hKl
    unfold S4_0
    rw [decide_eq_false (Int.lt_irrefl _), cond_false, hov, Option.bind_some]
    simp only [show ((0 : Int) != 0) = false from rfl, cond_false, tab_len, List.length_nil]
    rw [show decide (((0 : Nat) : Int) > 0) = false from rfl, cond_false, show ((l.length : Int) != (l.length : Int)) = false by simp, cond_false]
    have hin : iterO (fun y : Int => S4_1 30001 false (tab l.length g) K (l.length : Int) y) 30001 (0) = some true := by
      refine iterO_eq (fun y => ∃ i : Nat, y = (i : Int) ∧ i ≤ l.length) true (fun y => l.length - y.toNat) ?_ 30001 0 ⟨0, rfl, Nat.zero_le _⟩ (by show l.length - (0 : Int).toNat < 30001; omega)
      rintro _ ⟨i, rfl, hi⟩
      show (∃ y, S4_1 30001 false (tab l.length g) K (l.length : Int) (i : Int) = some (.inl y) ∧ _ ∧ _) ∨ S4_1 30001 false (tab l.length g) K (l.length : Int) (i : Int) = some (.inr true)
      unfold S4_1
      rcases Nat.lt_or_ge i l.length with hlt | hge
      · left
        have hmem := h4 i hlt (by have := (hgb i hlt).2; omega)
        obtain ⟨e, he, hek⟩ := List.mem_map.1 hmem
        have he1 : e.From = g i := congrArg Prod.fst hek
        have he2 : e.Sector = (i : Int) := congrArg Prod.snd hek
        obtain ⟨j, hj, hje⟩ := List.getElem_of_mem he
        have hnn : 0 ≤ idxL (fun e : TLoadOver => e.Sector == (i : Int)) K := by
          rcases Int.lt_or_le (idxL (fun e : TLoadOver => e.Sector == (i : Int)) K) 0 with k | k
          · have := (idxL_neg _ _).1 k e he
            rw [he2] at this
            simp at this
          · exact k
        obtain ⟨x, hx, hxs, hxf⟩ := idxL_at _ K hnn
        have hxs : x.Sector = (i : Int) := by simpa using hxs
        obtain ⟨q, hq⟩ : ∃ q : Nat, idxL (fun e : TLoadOver => e.Sector == (i : Int)) K = (q : Int) := ⟨_, (Int.toNat_of_nonneg hnn).symm⟩
        rw [hq, Int.toNat_natCast] at hx hxf
        have hqj : q ≤ j := by
          rcases Nat.lt_or_ge j q with k | k
          · have := hxf j k e (by rw [List.getElem?_eq_getElem hj, hje])
            rw [he2] at this
            simp at this
          · exact k
        have hxg : x.From = g i := by
          rcases Nat.lt_or_ge q j with k | k
          · exfalso
            have hp' := List.pairwise_iff_getElem.1 (List.pairwise_map.1 h3) q j (some_lt hx) hj k
            have hqx : K[q]'(some_lt hx) = x := by
              have := List.getElem?_eq_getElem (some_lt hx)
              rw [hx] at this
              exact (Option.some.inj this).symm
            rw [hqx, hje] at hp'
            have hp' : x.From < e.From ∨ x.From = e.From ∧ x.Sector < e.Sector := hp'
            have hex : g i ≤ x.From := h2 (keyO x) (List.mem_map_of_mem (List.mem_of_getElem? hx)) i hxs
            omega
          · have : q = j := by omega
            subst this
            rw [List.getElem?_eq_getElem hj, hje] at hx
            cases hx
            exact he1
        rw [decide_eq_true (show (i : Int) < _ by omega), cond_true, find_over 30001 K (by omega) (by omega), Option.bind_some, hq, decide_eq_false (show ¬ (q : Int) < 0 by omega), cond_false, getI_at hx, Option.bind_some, getI_at (tab_at hlt), Option.bind_some, hxg, show (g i != g i) = false by simp, cond_false, wS (by omega)]
        exact ⟨_, rfl, ⟨i + 1, rfl, hlt⟩, by show l.length - ((i + 1 : Nat) : Int).toNat < l.length - (i : Int).toNat; omega⟩
      · right
        rw [decide_eq_false (show ¬ (i : Int) < _ by omega), cond_false]
    rw [hin]; rfl
end Go.Proofs.YtldiackagnjlgaaGreat
