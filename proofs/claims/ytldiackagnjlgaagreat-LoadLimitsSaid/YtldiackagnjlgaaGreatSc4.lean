/- Sectors: Check answers, Place answers a sector or none. -/
import Derived.Test.YtldiackagnjlgaaGreatSc3
set_option linter.unusedVariables false
set_option linter.unusedSimpArgs false
namespace Go.Proofs.YtldiackagnjlgaaGreat

theorem name_tot (n : Nat) (hn : 16 < n) (s : ByteArray) : ∃ b, g45 n s = some b := by
  unfold g45
  by_cases h1 : (s.size : Int) < 1
  · simp [h1]
  by_cases h2 : (s.size : Int) > 8
  · simp [h1, h2]
  have hl : s.data.toList.length = s.size := Array.length_toList
  rw [decide_eq_false h1, decide_eq_false h2, room_of (by omega) (by omega)]
  simp only [cond_false, Option.bind_some]
  refine iter_tot s.data.toList.length (fun i hi => ?_) (fun i hi => ?_) n 0 (by omega)
  · obtain ⟨x, hx⟩ := getI_tot hi
    show S45_0 n false (s.data.toList) ((s.data.toList).length : Int) (i : Int) = _ ∨ ∃ r, S45_0 n false (s.data.toList) ((s.data.toList).length : Int) (i : Int) = _
    unfold S45_0
    rw [decide_eq_true (show (i : Int) < _ by omega), hx, wS (by omega)]
    simp only [cond_true, Option.bind_some]
    repeat' (rw [Bool.cond_eq_ite]; split)
    all_goals simp
  · show ∃ r, S45_0 n false (s.data.toList) ((s.data.toList).length : Int) (i : Int) = _
    unfold S45_0
    rw [decide_eq_false (show ¬ (i : Int) < _ by omega)]
    exact ⟨_, rfl⟩
theorem sname_tot (n : Nat) (hn : 16 < n) (s : ByteArray) : ∃ b, g34 n s = some b := by
  unfold g34
  exact bind_tot (name_tot n hn s) fun _ => ⟨_, rfl⟩
structure SecOk (l : List TSector) : Prop where
  len : l.length ≤ 12
  rooms : ∀ s ∈ l, s.Room.length ≤ 4 ∧ ∀ v ∈ s.Room, VolOk v
theorem named_tot (n : Nat) (l : List TSector) (a : ByteArray) (b : List TVolume) (hl : l.length < n) (hl2 : l.length ≤ 1000) : ∃ r, g36 n l a b = some r := by
  unfold g36 g47_1
  refine bind_tot (iter_tot l.length (fun i hi => ?_) (fun i hi => ?_) n 0 (by omega)) fun _ => ⟨_, rfl⟩
  · obtain ⟨x, hx⟩ := getI_tot hi
    show S47_0_x1 n l a b (0) (l.length : Int) (i : Int) = _ ∨ ∃ r, S47_0_x1 n l a b (0) (l.length : Int) (i : Int) = _
    unfold S47_0_x1 g37
    rw [decide_eq_true (show (i : Int) < _ by omega), cond_true, hx, Option.bind_some, Option.bind_some, wS (by omega)]
    cases (x.Name.toList == a.toList)
    · exact .inl rfl
    · exact .inr ⟨_, rfl⟩
  · show ∃ r, S47_0_x1 n l a b (0) (l.length : Int) (i : Int) = _
    unfold S47_0_x1
    rw [decide_eq_false (show ¬ (i : Int) < _ by omega)]
    exact ⟨_, rfl⟩
theorem room_loop (n : Nat) (hn : 4500 < n) (l : List TSector) (hl : l.length ≤ 12) (i : Nat) (hi : i < l.length) (c19 : Int) (R : List TVolume) (nm : ByteArray) (hR : R.length ≤ 4) (hR0 : R ≠ []) (L : List TVolume) (hL : L.length ≤ 100) :
    ∃ r, iterO (fun y : Int × List TVolume => S23_0_0 n l 0 (i : Int) c19 R (R.length : Int) nm y.1 y.2) n ((0), L) = some r ∧ ((r = .inl (((i + 1 : Nat) : Int), L ++ R) ∧ ∀ v ∈ R, VolOk v) ∨ ∃ z, z ≠ 0 ∧ r = .inr z) := by
  refine iterO_rule (S := fun y : Int × List TVolume => S23_0_0 n l 0 (i : Int) c19 R (R.length : Int) nm y.1 y.2) (fun y => ∃ j : Nat, y = ((j : Int), L) ∧ j ≤ R.length ∧ ∀ (k : Nat) (v : TVolume), k < j → R[k]? = some v → VolOk v) _ (fun y => R.length - y.1.toNat) ?_ n ((0), L) ⟨0, rfl, Nat.zero_le _, fun k v h => absurd h (Nat.not_lt_zero _)⟩ (by show R.length - (0 : Int).toNat < n; omega)
  rintro _ ⟨j, rfl, hj, hv⟩
  show (∃ y, S23_0_0 n l 0 (i : Int) c19 R (R.length : Int) nm (j : Int) L = some (.inl y) ∧ _ ∧ _) ∨ ∃ r, S23_0_0 n l 0 (i : Int) c19 R (R.length : Int) nm (j : Int) L = some (.inr r) ∧ _
  unfold S23_0_0
  rcases Nat.lt_or_ge j R.length with hlt | hge
  · have hx : R[j]? = some R[j] := List.getElem?_eq_getElem hlt
    generalize R[j] = x at hx
    obtain ⟨z, hz, kz⟩ := vol_check n x (by omega)
    rw [decide_eq_true (show (j : Int) < _ by omega), cond_true, getI_at hx, Option.bind_some, hz, Option.bind_some, wS (by omega)]
    by_cases h : z = 0
    · rw [h]
      refine .inl ⟨_, rfl, ⟨j + 1, rfl, hlt, fun k v hk hkv => ?_⟩, by show R.length - ((j + 1 : Nat) : Int).toNat < R.length - (j : Int).toNat; omega⟩
      by_cases e : k = j
      · subst e; rw [hx] at hkv; cases hkv; exact kz h
      · exact hv k v (by omega) hkv
    · rw [bne_iff_ne.2 h, cond_true]
      exact .inr ⟨_, rfl, .inr ⟨z, h, rfl⟩⟩
  · have htl : (l.take i).length ≤ 12 := by rw [List.length_take]; omega
    obtain ⟨b, hb⟩ := named_tot n (l.take i) nm R (by omega) (by omega)
    have hne : neO R = some () := by
      cases hR' : R with
      | nil => exact absurd hR' hR0
      | cons _ _ => rfl
    rw [decide_eq_false (show ¬ (j : Int) < _ by omega), cond_false, slice_hi l i (by omega), Option.bind_some, hb, Option.bind_some]
    cases b with
    | true => exact .inr ⟨_, rfl, .inr ⟨7, by decide, rfl⟩⟩
    | false =>
      rw [cond_false, hne, Option.bind_some, room_of (by omega) (by omega), Option.bind_some, wS (by omega)]
      refine .inr ⟨_, rfl, .inl ⟨rfl, fun v hv' => ?_⟩⟩
      obtain ⟨k, hk⟩ := List.getElem?_of_mem hv'
      exact hv k v (by have := some_lt hk; omega) hk
theorem apart_loop (n : Nat) (hn : 4500 < n) (L : List TVolume) (hL : L.length ≤ 100) : ∃ z, iterO (fun y : Int => S23_1 n 0 L (L.length : Int) y) n (0) = some z := by
  refine iter_tot L.length (fun i hi => ?_) (fun i hi => ?_) n 0 (by omega)
  · obtain ⟨x, hx⟩ := getI_tot hi
    show S23_1 n 0 L (L.length : Int) (i : Int) = _ ∨ ∃ r, S23_1 n 0 L (L.length : Int) (i : Int) = _
    obtain ⟨r, hr, hQ⟩ := iterO_rule (S := fun y : Int => S23_1_0 n 0 L (L.length : Int) (i : Int) (L.take i) ((L.take i).length : Int) x.Area x.Low x.High y) (fun y => ∃ j : Nat, y = (j : Int) ∧ j ≤ (L.take i).length) (fun r => r = .inl ((i + 1 : Nat) : Int) ∨ ∃ z, r = .inr z) (fun y => (L.take i).length - y.toNat) (by
      rintro _ ⟨j, rfl, hj⟩
      show (∃ y, S23_1_0 n 0 L (L.length : Int) (i : Int) (L.take i) ((L.take i).length : Int) x.Area x.Low x.High (j : Int) = some (.inl y) ∧ _ ∧ _) ∨ ∃ r, S23_1_0 n 0 L (L.length : Int) (i : Int) (L.take i) ((L.take i).length : Int) x.Area x.Low x.High (j : Int) = some (.inr r) ∧ _
      have hjl : (L.take i).length ≤ 100 := by rw [List.length_take]; omega
      unfold S23_1_0
      rcases Nat.lt_or_ge j (L.take i).length with hlt | hge
      · obtain ⟨w, hw⟩ := getI_tot hlt
        obtain ⟨o, ho⟩ := vover_tot n (⟨x.Area, x.Low, x.High⟩ : TVolume) w (by omega)
        rw [decide_eq_true (show (j : Int) < _ by omega), cond_true, hw, Option.bind_some, ho, Option.bind_some, wS (by omega)]
        cases o.1
        · exact .inl ⟨_, rfl, ⟨j + 1, rfl, hlt⟩, by show (L.take i).length - ((j + 1 : Nat) : Int).toNat < (L.take i).length - (j : Int).toNat; omega⟩
        · exact .inr ⟨_, rfl, .inr ⟨_, rfl⟩⟩
      · rw [decide_eq_false (show ¬ (j : Int) < _ by omega), cond_false, wS (by omega)]
        exact .inr ⟨_, rfl, .inl rfl⟩) n 0 ⟨0, rfl, Nat.zero_le _⟩ (by show (L.take i).length - (0 : Int).toNat < n; rw [List.length_take]; omega)
    unfold S23_1
    rw [decide_eq_true (show (i : Int) < _ by omega), cond_true, hx, Option.bind_some, slice_hi L i (by omega), Option.bind_some, hr]
    rcases hQ with rfl | ⟨z, rfl⟩
    · exact .inl rfl
    · exact .inr ⟨_, rfl⟩
  · show ∃ r, S23_1 n 0 L (L.length : Int) (i : Int) = _
    unfold S23_1
    rw [decide_eq_false (show ¬ (i : Int) < _ by omega)]
    exact ⟨_, rfl⟩
theorem sec_check (n : Nat) (hn : 4500 < n) (l : List TSector) : ∃ z, g23 n l = some z ∧ (z = 0 → SecOk l) := by
  unfold g23
  by_cases h1 : (l.length : Int) > 12
  · rw [decide_eq_true h1, cond_true]; exact ⟨2, rfl, fun h => by cases h⟩
  rw [decide_eq_false h1, cond_false]
  refine iterO_rule (S := fun y : Int × List TVolume => S23_0 n l 0 (l.length : Int) y.1 y.2) (fun y => ∃ (i : Nat) (L : List TVolume), y = ((i : Int), L) ∧ i ≤ l.length ∧ L.length ≤ 4 * i ∧ ∀ (k : Nat) (s : TSector), k < i → l[k]? = some s → s.Room.length ≤ 4 ∧ ∀ v ∈ s.Room, VolOk v) _ (fun y => l.length - y.1.toNat) ?_ n ((0), []) ⟨0, [], rfl, Nat.zero_le _, Nat.zero_le _, fun k v h => absurd h (Nat.not_lt_zero _)⟩ (by show l.length - (0 : Int).toNat < n; omega)
  rintro _ ⟨i, L, rfl, hi, hL, hv⟩
  show (∃ y, S23_0 n l 0 (l.length : Int) (i : Int) L = some (.inl y) ∧ _ ∧ _) ∨ ∃ r, S23_0 n l 0 (l.length : Int) (i : Int) L = some (.inr r) ∧ _
  unfold S23_0
  rcases Nat.lt_or_ge i l.length with hlt | hge
  · have hx : l[i]? = some l[i] := List.getElem?_eq_getElem hlt
    generalize l[i] = x at hx
    obtain ⟨b, hb⟩ := sname_tot n (by omega) x.Name
    rw [decide_eq_true (show (i : Int) < _ by omega), cond_true, getI_at hx, Option.bind_some, hb, Option.bind_some]
    cases b with
    | false => exact .inr ⟨_, rfl, fun h => by cases h⟩
    | true =>
    rw [Bool.not_true, cond_false]
    by_cases h0 : (x.Room.length : Int) = 0
    · rw [beq_iff_eq.2 h0, cond_true]; exact .inr ⟨_, rfl, fun h => by cases h⟩
    by_cases h4 : (x.Room.length : Int) > 4
    · rw [beq_eq_false_iff_ne.2 h0, cond_false, decide_eq_true h4, cond_true]; exact .inr ⟨_, rfl, fun h => by cases h⟩
    rw [beq_eq_false_iff_ne.2 h0, cond_false, decide_eq_false h4, cond_false]
    obtain ⟨r, hr, ⟨rfl, hvs⟩ | ⟨z, hz, rfl⟩⟩ := room_loop n hn l (by omega) i hlt (l.length : Int) x.Room x.Name (by omega) (fun e => h0 (by rw [e]; rfl)) L (by omega)
    · refine .inl ⟨_, hr, ⟨i + 1, L ++ x.Room, rfl, hlt, by rw [List.length_append]; omega, fun k s hk hks => ?_⟩, by show l.length - ((i + 1 : Nat) : Int).toNat < l.length - (i : Int).toNat; omega⟩
      by_cases e : k = i
      · subst e; rw [hx] at hks; cases hks; exact ⟨by omega, hvs⟩
      · exact hv k s (by omega) hks
    · exact .inr ⟨z, hr, fun h => absurd h hz⟩
  · obtain ⟨z, hz⟩ := apart_loop n hn L (by omega)
    rw [decide_eq_false (show ¬ (i : Int) < _ by omega), cond_false, hz]
    refine .inr ⟨z, rfl, fun _ => ⟨by omega, fun s hs => ?_⟩⟩
    obtain ⟨k, hk⟩ := List.getElem?_of_mem hs
    exact hv k s (by have := some_lt hk; omega) hk
/- a point's sector -/
theorem in_room (n : Nat) (hn : 4500 < n) (x y h : Int) (R : List TVolume) (hR : R.length ≤ 4) (hv : ∀ v ∈ R, VolOk v) : ∃ b, g54 n R x y h = some b := by
  unfold g54 g81
  refine bind_tot (iter_tot R.length (fun i hi => ?_) (fun i hi => ?_) n 0 (by omega)) fun _ => ⟨_, rfl⟩
  · have hx : R[i]? = some R[i] := List.getElem?_eq_getElem hi
    generalize R[i] = v at hx
    have hp := hv v (List.mem_of_getElem? hx)
    have hp2 := hp.hi
    have hc : ∃ b, g55 n v x y h = some b := by
      unfold g55 g56
      exact bind_tot (bif_tot (bif_tot (bind_tot (place_tot n v.Area _ (by omega) (by omega)) fun _ => ⟨_, rfl⟩) ⟨_, rfl⟩) ⟨_, rfl⟩) fun _ => ⟨_, rfl⟩
    obtain ⟨b, hb⟩ := hc
    show S81_0 n R x y h (0) (R.length : Int) (i : Int) = _ ∨ ∃ r, S81_0 n R x y h (0) (R.length : Int) (i : Int) = _
    unfold S81_0
    rw [decide_eq_true (show (i : Int) < _ by omega), cond_true, getI_at hx, Option.bind_some, hb, Option.bind_some, wS (by omega)]
    cases b
    · exact .inl rfl
    · exact .inr ⟨_, rfl⟩
  · show ∃ r, S81_0 n R x y h (0) (R.length : Int) (i : Int) = _
    unfold S81_0
    rw [decide_eq_false (show ¬ (i : Int) < _ by omega)]
    exact ⟨_, rfl⟩
theorem place_val (n : Nat) (hn : 4500 < n) (l : List TSector) (hl : SecOk l) (at_ : TP) (h : Int) : ∃ i : Int, g40 n l at_ h = some i ∧ -1 ≤ i ∧ i < (l.length : Int) := by
  have hlen := hl.len
  unfold g40 g47
  have e := index_loop (fun s : TSector => (g53 n s at_.X at_.Y h).getD false) l (by omega) (S := fun y : Int => S47_0 n l at_.X at_.Y h (0) (l.length : Int) y) (fun i s hs => by
    have := some_lt hs
    obtain ⟨h1, h2⟩ := hl.rooms s (List.mem_of_getElem? hs)
    obtain ⟨b, hb⟩ := in_room n hn at_.X at_.Y h s.Room h1 h2
    have hb2 : g53 n s at_.X at_.Y h = some b := by
      unfold g53
      rw [hb]; rfl
    show S47_0 n l at_.X at_.Y h (0) (l.length : Int) (i : Int) = _
    unfold S47_0
    rw [decide_eq_true (show (i : Int) < _ by omega), cond_true, getI_at hs, Option.bind_some, hb2, Option.bind_some, wS (by omega)]
    cases b <;> rfl) (by
    show S47_0 n l at_.X at_.Y h (0) (l.length : Int) (l.length : Int) = _
    unfold S47_0
    rw [decide_eq_false (Int.lt_irrefl _)]; rfl) n (by omega)
  rw [e]
  exact ⟨_, rfl, (idxL_ge _ l).1, (idxL_ge _ l).2⟩
end Go.Proofs.YtldiackagnjlgaaGreat
