/- resolve.Candidates as a plain list: three rounds, each of heights, speeds and headings. -/
import Derived.Test.YteaimbiojpjneaaGreatDoorHa
import Derived.Test.YteaimbiojpjneaaGreatDoorAt3
set_option linter.unusedVariables false
set_option linter.unusedSimpArgs false
set_option maxHeartbeats 1000000
namespace Go.Proofs.YteaimbiojpjneaaGreatDoor

/- a part of a list of places, all of them good -/
def Sb (ok : Int × Int → Prop) (P J : List (Int × Int)) : Prop := J.Sublist P ∧ ∀ p ∈ J, ok p
theorem Sb.skip {ok : Int × Int → Prop} {P J : List (Int × Int)} {a : Int × Int} (h : Sb ok P J) : Sb ok (P ++ [a]) J := ⟨h.1.trans (List.sublist_append_left P [a]), h.2⟩
theorem Sb.add {ok : Int × Int → Prop} {P J : List (Int × Int)} {a : Int × Int} (h : Sb ok P J) (ha : ok a) : Sb ok (P ++ [a]) (J ++ [a]) :=
  ⟨h.1.append (List.Sublist.refl _), fun p hp => by
    rcases List.mem_append.1 hp with h1 | h1
    · exact h.2 p h1
    · rw [List.mem_singleton.1 h1]; exact ha⟩
theorem Sb.len {ok : Int × Int → Prop} {P J : List (Int × Int)} (h : Sb ok P J) : J.length ≤ P.length := h.1.length_le
def cf (call : ByteArray) (H S A : Int) (p : Int × Int) : TClearance :=
  if p.1 = 0 then ⟨call, 0, H + 1000 * p.2, ⟨#[]⟩⟩ else if p.1 = 2 then ⟨call, 2, S + 15 * p.2, ⟨#[]⟩⟩ else ⟨call, 1, (A + 171 * p.2) % 4096, ⟨#[]⟩⟩
def okP (H S : Int) (k : TKind) (p : Int × Int) : Prop := (p.1 = 0 → 0 ≤ H + 1000 * p.2 ∧ H + 1000 * p.2 ≤ k.Ceiling) ∧ (p.1 = 2 → k.Slow ≤ S + 15 * p.2 ∧ S + 15 * p.2 ≤ k.Fast)
theorem norm_mod (n : Nat) (a : Int) : g29 n a = some (a % 4096) := by
  unfold g29
  have h1 : Int.tmod a 4096 = if 0 ≤ a then a % 4096 else -((-a) % 4096) := by
    by_cases h : 0 ≤ a
    · rw [if_pos h, Int.tmod_eq_emod_of_nonneg h]
    · rw [if_neg h, ← Int.tmod_eq_emod_of_nonneg (show 0 ≤ -a by omega), Int.neg_tmod, Int.neg_neg]
  have h2 : -4096 < Int.tmod a 4096 ∧ Int.tmod a 4096 < 4096 := by rw [h1]; split <;> omega
  rw [wrap64 (by omega) (by omega), Int.tmod_eq_emod_of_nonneg (show 0 ≤ Int.tmod a 4096 + 4096 by omega)]
  have e : (Int.tmod a 4096 + 4096) % 4096 = a % 4096 := by
    rw [h1]
    by_cases h : 0 ≤ a
    · rw [if_pos h]; omega
    · rw [if_neg h]; omega
  rw [e]
theorem get_0 (a b : Int) : getI [a, b] 0 = some a := rfl
theorem get_1 (a b : Int) : getI [a, b] 1 = some b := rfl
theorem pair_loop {ρ : Type} {S : Int × List TClearance × ByteArray → Option ((Int × List TClearance × ByteArray) ⊕ ρ)} {f : Int × Int → TClearance} {call : ByteArray} {ok : Int × Int → Prop} {P : List (Int × Int)} {a b : Int × Int} {Q : ρ → Prop} {n : Nat} (hn : 2 < n)
    (h0 : ∀ J, Sb ok P J → ∃ J', Sb ok (P ++ [a]) J' ∧ S (0, J.map f, call) = some (.inl (1, J'.map f, call)))
    (h1 : ∀ J, Sb ok (P ++ [a]) J → ∃ J', Sb ok (P ++ [a] ++ [b]) J' ∧ S (1, J.map f, call) = some (.inl (2, J'.map f, call)))
    (h2 : ∀ J, Sb ok (P ++ [a] ++ [b]) J → ∃ r, S (2, J.map f, call) = some (.inr r) ∧ Q r) {J : List (Int × Int)} (hJ : Sb ok P J) : ∃ r, iterO S n (0, J.map f, call) = some r ∧ Q r := by
  obtain ⟨m, rfl⟩ : ∃ m, n = m + 3 := ⟨n - 3, by omega⟩
  obtain ⟨J1, k1, e1⟩ := h0 J hJ
  obtain ⟨J2, k2, e2⟩ := h1 J1 k1
  obtain ⟨r, e3, q⟩ := h2 J2 k2
  refine ⟨r, ?_, q⟩
  unfold iterO
  rw [e1]
  show iterO S (m + 2) _ = _
  unfold iterO
  rw [e2]
  show iterO S (m + 1) _ = _
  unfold iterO
  rw [e3]
section
variable (n : Nat) (hn : 4100 < n) (call : ByteArray) (S A : Int) (mv : Bool) (k : TKind) (x : TTubeNode) (hx : 0 ≤ x.Node_Height ∧ x.Node_Height ≤ 60000) (hS : 0 ≤ S ∧ S ≤ 3000000) (hA : 0 ≤ A ∧ A ≤ 4095) {r : Int} (hr : 1 ≤ r ∧ r ≤ 3)
theorem room_J {J P : List (Int × Int)} {ok : Int × Int → Prop} {f : Int × Int → TClearance} {c : TClearance} (h : Sb ok P J) (hP : P.length ≤ 1000) : roomO ((J.map f).length + ([c] : List TClearance).length) 48 = some () := by
  have := h.len
  refine room_of ?_ ?_ <;> (simp only [List.length_map, List.length_cons, List.length_nil]; omega)
include hn hA hr in
theorem loop2 {P J : List (Int × Int)} (hP : P.length ≤ 100) (hJ : Sb (okP x.Node_Height S k) P J) : ∃ q, iterO (fun y : Int × List TClearance × ByteArray => S7_0_2 n 0 A S mv r (IntKind.wrap .i64 (A + (IntKind.wrap .i64 ((171) * r)))) (IntKind.wrap .i64 (A - (IntKind.wrap .i64 ((171) * r)))) k.Name k.Wake k.Ceiling k.Climb k.Descent k.Slow k.Fast x.Node_Time x.Node_At_X x.Node_At_Y x.Node_Height x.Radius x.Band y.1 y.2.1 y.2.2) n (0, J.map (cf call x.Node_Height S A), call) = some q ∧
    ∃ J', Sb (okP x.Node_Height S k) (P ++ [(1, r)] ++ [(1, -r)]) J' ∧ q = .inl (r + 1, J'.map (cf call x.Node_Height S A), call) := by
  refine pair_loop (a := (1, r)) (b := (1, -r)) (by omega) (fun J hJ => ⟨J ++ [(1, r)], hJ.add ⟨fun h => absurd h (show ¬ (1 : Int) = 0 by decide), fun h => absurd h (show ¬ (1 : Int) = 2 by decide)⟩, ?_⟩) (fun J hJ => ⟨J ++ [(1, -r)], hJ.add ⟨fun h => absurd h (show ¬ (1 : Int) = 0 by decide), fun h => absurd h (show ¬ (1 : Int) = 2 by decide)⟩, ?_⟩) (fun J hJ => ?_) hJ
  · dsimp only
    unfold S7_0_2
    rw [decide_eq_true (by decide), cond_true, wrap64 (z := 171 * r) (by omega) (by omega), wrap64 (by omega) (by omega)]
    rw [get_0, Option.bind_some, norm_mod, Option.bind_some, room_J hJ (by omega), Option.bind_some, List.map_append]
    rfl
  · dsimp only
    unfold S7_0_2
    rw [decide_eq_true (by decide), cond_true, wrap64 (z := 171 * r) (by omega) (by omega), wrap64 (z := A - 171 * r) (by omega) (by omega)]
    rw [get_1, Option.bind_some, norm_mod, Option.bind_some, room_J hJ (by rw [List.length_append]; simp only [List.length_cons, List.length_nil]; omega), Option.bind_some, List.map_append]
    have e : cf call x.Node_Height S A (1, -r) = ⟨call, 1, (A - 171 * r) % 4096, ⟨#[]⟩⟩ := by
      show (⟨call, 1, (A + 171 * -r) % 4096, ⟨#[]⟩⟩ : TClearance) = _
      rw [show A + 171 * -r = A - 171 * r by omega]
    rw [List.map_cons, List.map_nil, e]
    rfl
  · refine ⟨_, ?_, J, hJ, rfl⟩
    dsimp only
    unfold S7_0_2
    rw [decide_eq_false (by decide), cond_false, wrap64 (by omega) (by omega)]
include hn hS hA hr in
theorem loop1 {P J : List (Int × Int)} (hP : P.length ≤ 90) (hJ : Sb (okP x.Node_Height S k) P J) : ∃ q, iterO (fun y : Int × List TClearance × ByteArray => S7_0_1 n 0 A S mv r (IntKind.wrap .i64 (S + (IntKind.wrap .i64 ((15) * r)))) (IntKind.wrap .i64 (S - (IntKind.wrap .i64 ((15) * r)))) k.Name k.Wake k.Ceiling k.Climb k.Descent k.Slow k.Fast x.Node_Time x.Node_At_X x.Node_At_Y x.Node_Height x.Radius x.Band y.1 y.2.1 y.2.2) n (0, J.map (cf call x.Node_Height S A), call) = some q ∧
    ∃ J', Sb (okP x.Node_Height S k) (P ++ [(2, r)] ++ [(2, -r)] ++ [(1, r)] ++ [(1, -r)]) J' ∧ q = .inl (r + 1, J'.map (cf call x.Node_Height S A), call) := by
  have step : ∀ (w v : Int) (a : Int × Int) (P J : List (Int × Int)), P.length ≤ 100 → Sb (okP x.Node_Height S k) P J → a.1 = 2 → v = S + 15 * a.2 → ∀ z : Int, ∃ J', Sb (okP x.Node_Height S k) (P ++ [a]) J' ∧
      (bif decide (v ≥ k.Slow) then (bif decide (v ≤ k.Fast) then ((roomO ((J.map (cf call x.Node_Height S A)).length + ([(⟨call, (2), v, (⟨#[]⟩ : ByteArray)⟩ : TClearance)] : List TClearance).length) 48).bind fun x752 =>
        some (.inl (z, ((J.map (cf call x.Node_Height S A)) ++ ([(⟨call, (2), v, (⟨#[]⟩ : ByteArray)⟩ : TClearance)] : List TClearance)), call))) else some (.inl (z, J.map (cf call x.Node_Height S A), call))) else (some (.inl (z, J.map (cf call x.Node_Height S A), call)) : Option ((Int × List TClearance × ByteArray) ⊕ ((Int × List TClearance × ByteArray) ⊕ ((List TClearance) × Int))))) = some (.inl (z, J'.map (cf call x.Node_Height S A), call)) := fun w v a P J hP hJ ha hv z => by
    by_cases c1 : v ≥ k.Slow
    · rw [decide_eq_true c1, cond_true]
      by_cases c2 : v ≤ k.Fast
      · refine ⟨J ++ [a], hJ.add ⟨fun h => absurd (ha.symm.trans h) (by decide), fun _ => by omega⟩, ?_⟩
        rw [decide_eq_true c2, cond_true, room_J hJ (by omega), Option.bind_some, List.map_append, List.map_cons, List.map_nil, cf, if_neg (by omega), if_pos ha, hv]
      · exact ⟨J, hJ.skip, by rw [decide_eq_false c2, cond_false]⟩
    · exact ⟨J, hJ.skip, by rw [decide_eq_false c1, cond_false]⟩
  refine pair_loop (a := (2, r)) (b := (2, -r)) (by omega) (fun J hJ => ?_) (fun J hJ => ?_) (fun J hJ => ?_) hJ
  · dsimp only
    unfold S7_0_1
    rw [decide_eq_true (by decide), cond_true, wrap64 (z := 15 * r) (by omega) (by omega), wrap64 (z := S + 15 * r) (by omega) (by omega), get_0, Option.bind_some]
    exact step 0 (S + 15 * r) (2, r) P J (by omega) hJ rfl rfl 1
  · dsimp only
    unfold S7_0_1
    rw [decide_eq_true (by decide), cond_true, wrap64 (z := 15 * r) (by omega) (by omega), wrap64 (z := S - 15 * r) (by omega) (by omega), get_1, Option.bind_some]
    exact step 1 (S - 15 * r) (2, -r) (P ++ [(2, r)]) J (by rw [List.length_append]; simp only [List.length_cons, List.length_nil]; omega) hJ rfl (by show S - 15 * r = S + 15 * -r; omega) 2
  · obtain ⟨q, e, J', h1, h2⟩ := loop2 n hn call S A mv k x hA hr (P := P ++ [(2, r)] ++ [(2, -r)]) (by simp only [List.length_append, List.length_cons, List.length_nil]; omega) hJ
    refine ⟨q, ?_, J', h1, h2⟩
    dsimp only
    unfold S7_0_1
    rw [decide_eq_false (by decide), cond_false, e]
    rfl
def six (r : Int) : List (Int × Int) := [(0, r), (0, -r), (2, r), (2, -r), (1, r), (1, -r)]
include hn hx hS hA hr in
theorem loop0 {P J : List (Int × Int)} (hP : P.length ≤ 80) (hJ : Sb (okP x.Node_Height S k) P J) : ∃ q, iterO (fun y : Int × List TClearance × ByteArray => S7_0_0 n 0 A S mv r (IntKind.wrap .i64 (x.Node_Height + (IntKind.wrap .i64 ((1000) * r)))) (IntKind.wrap .i64 (x.Node_Height - (IntKind.wrap .i64 ((1000) * r)))) k.Name k.Wake k.Ceiling k.Climb k.Descent k.Slow k.Fast x.Node_Time x.Node_At_X x.Node_At_Y x.Node_Height x.Radius x.Band y.1 y.2.1 y.2.2) n (0, J.map (cf call x.Node_Height S A), call) = some q ∧
    ∃ J', Sb (okP x.Node_Height S k) (P ++ six r) J' ∧ q = .inl (r + 1, J'.map (cf call x.Node_Height S A), call) := by
  have step : ∀ (w v : Int) (a : Int × Int) (P J : List (Int × Int)), P.length ≤ 100 → Sb (okP x.Node_Height S k) P J → a.1 = 0 → v = x.Node_Height + 1000 * a.2 → ∀ z : Int, ∃ J', Sb (okP x.Node_Height S k) (P ++ [a]) J' ∧
      (bif decide (v ≥ 0) then (bif decide (v ≤ k.Ceiling) then ((roomO ((J.map (cf call x.Node_Height S A)).length + ([(⟨call, (0), v, (⟨#[]⟩ : ByteArray)⟩ : TClearance)] : List TClearance).length) 48).bind fun x752 =>
        some (.inl (z, ((J.map (cf call x.Node_Height S A)) ++ ([(⟨call, (0), v, (⟨#[]⟩ : ByteArray)⟩ : TClearance)] : List TClearance)), call))) else some (.inl (z, J.map (cf call x.Node_Height S A), call))) else (some (.inl (z, J.map (cf call x.Node_Height S A), call)) : Option ((Int × List TClearance × ByteArray) ⊕ ((Int × List TClearance × ByteArray) ⊕ ((List TClearance) × Int))))) = some (.inl (z, J'.map (cf call x.Node_Height S A), call)) := fun w v a P J hP hJ ha hv z => by
    by_cases c1 : v ≥ 0
    · rw [decide_eq_true c1, cond_true]
      by_cases c2 : v ≤ k.Ceiling
      · refine ⟨J ++ [a], hJ.add ⟨fun _ => by omega, fun h => absurd (ha.symm.trans h) (by decide)⟩, ?_⟩
        rw [decide_eq_true c2, cond_true, room_J hJ (by omega), Option.bind_some, List.map_append, List.map_cons, List.map_nil, cf, if_pos ha, hv]
      · exact ⟨J, hJ.skip, by rw [decide_eq_false c2, cond_false]⟩
    · exact ⟨J, hJ.skip, by rw [decide_eq_false c1, cond_false]⟩
  refine pair_loop (a := (0, r)) (b := (0, -r)) (by omega) (fun J hJ => ?_) (fun J hJ => ?_) (fun J hJ => ?_) hJ
  · dsimp only
    unfold S7_0_0
    rw [decide_eq_true (by decide), cond_true, wrap64 (z := 1000 * r) (by omega) (by omega), wrap64 (z := x.Node_Height + 1000 * r) (by omega) (by omega), get_0, Option.bind_some]
    exact step 0 (x.Node_Height + 1000 * r) (0, r) P J (by omega) hJ rfl rfl 1
  · dsimp only
    unfold S7_0_0
    rw [decide_eq_true (by decide), cond_true, wrap64 (z := 1000 * r) (by omega) (by omega), wrap64 (z := x.Node_Height - 1000 * r) (by omega) (by omega), get_1, Option.bind_some]
    exact step 1 (x.Node_Height - 1000 * r) (0, -r) (P ++ [(0, r)]) J (by rw [List.length_append]; simp only [List.length_cons, List.length_nil]; omega) hJ rfl (by show x.Node_Height - 1000 * r = x.Node_Height + 1000 * -r; omega) 2
  · have e6 : P ++ six r = P ++ [(0, r)] ++ [(0, -r)] ++ [(2, r)] ++ [(2, -r)] ++ [(1, r)] ++ [(1, -r)] := by simp [six]
    cases mv with
    | false =>
      refine ⟨.inl (r + 1, J.map (cf call x.Node_Height S A), call), ?_, J, ?_, rfl⟩
      · dsimp only
        unfold S7_0_0
        rw [decide_eq_false (by decide), cond_false, wrap64 (z := r + 1) (by omega) (by omega)]
        rfl
      · rw [e6]
        exact hJ.skip.skip.skip.skip
    | true =>
      obtain ⟨q, e, J', h1, h2⟩ := loop1 n hn call S A true k x hS hA hr (P := P ++ [(0, r)] ++ [(0, -r)]) (by simp only [List.length_append, List.length_cons, List.length_nil]; omega) hJ
      refine ⟨q, ?_, J', by rw [e6]; exact h1, h2⟩
      dsimp only
      unfold S7_0_0
      rw [decide_eq_false (by decide), cond_false, e]
      rfl
include hn hx hS hA in
theorem rounds : ∃ J, Sb (okP x.Node_Height S k) (six 1 ++ six 2 ++ six 3) J ∧ iterO (fun y : Int × List TClearance × ByteArray => S7_0 n (0) A S mv k.Name k.Wake k.Ceiling k.Climb k.Descent k.Slow k.Fast x.Node_Time x.Node_At_X x.Node_At_Y x.Node_Height x.Radius x.Band y.1 y.2.1 y.2.2) n ((1), [], call) = some (J.map (cf call x.Node_Height S A), 0) := by
  have round : ∀ (r : Int) (hr : 1 ≤ r ∧ r ≤ 3) (P J : List (Int × Int)), P.length ≤ 80 → Sb (okP x.Node_Height S k) P J → ∃ J', Sb (okP x.Node_Height S k) (P ++ six r) J' ∧ S7_0 n (0) A S mv k.Name k.Wake k.Ceiling k.Climb k.Descent k.Slow k.Fast x.Node_Time x.Node_At_X x.Node_At_Y x.Node_Height x.Radius x.Band r (J.map (cf call x.Node_Height S A)) call = some (.inl (r + 1, J'.map (cf call x.Node_Height S A), call)) := fun r hr P J hP hJ => by
    obtain ⟨q, e, J', h1, rfl⟩ := loop0 n hn call S A mv k x hx hS hA hr hP hJ
    refine ⟨J', h1, ?_⟩
    unfold S7_0
    rw [decide_eq_true hr.2, cond_true, e]
  obtain ⟨m, rfl⟩ : ∃ m, n = m + 4 := ⟨n - 4, by omega⟩
  obtain ⟨J1, k1, e1⟩ := round 1 ⟨by decide, by decide⟩ [] [] (by decide) ⟨List.Sublist.refl _, fun p hp => by cases hp⟩
  obtain ⟨J2, k2, e2⟩ := round 2 ⟨by decide, by decide⟩ _ J1 (by decide) k1
  obtain ⟨J3, k3, e3⟩ := round 3 ⟨by decide, by decide⟩ _ J2 (by decide) k2
  refine ⟨J3, k3, ?_⟩
  rw [List.map_nil] at e1
  unfold iterO
  rw [e1]
  show iterO _ (m + 3) ((2 : Int), _, _) = _
  unfold iterO
  dsimp only
  rw [e2]
  show iterO _ (m + 2) ((3 : Int), _, _) = _
  unfold iterO
  dsimp only
  rw [e3]
  show iterO _ (m + 1) ((4 : Int), _, _) = _
  unfold iterO
  dsimp only
  unfold S7_0
  rw [decide_eq_false (by decide), cond_false]
end
end Go.Proofs.YteaimbiojpjneaaGreatDoor
