/- effect.Of: its checks, its two loops, what comes after them. -/
import Derived.Test.YtpjepkldnnfncaaDoorFf1
set_option linter.unusedVariables false
set_option linter.unusedSimpArgs false
namespace Go.Proofs.YtpjepkldnnfncaaDoor

theorem name_tot (n : Nat) (hn : 16 < n) (s : ByteArray) : ∃ b, g41 n s = some b := by
  unfold g41
  by_cases h1 : (s.size : Int) < 1
  · simp [h1]
  by_cases h2 : (s.size : Int) > 8
  · simp [h1, h2]
  have hl : s.data.toList.length = s.size := Array.length_toList
  rw [decide_eq_false h1, decide_eq_false h2, room_of (by omega) (by omega)]
  simp only [cond_false, Option.bind_some]
  obtain ⟨r, h, -⟩ := iterO_rule (S := fun y : Int => S41_0 n false (s.data.toList) ((s.data.toList).length : Int) y) (fun x => ∃ i : Nat, i ≤ s.data.toList.length ∧ x = (i : Int)) (fun _ => True) (fun x => s.data.toList.length - x.toNat) (by
    rintro _ ⟨i, hi, rfl⟩
    rcases Nat.lt_or_ge i s.data.toList.length with hlt | hge
    · have hx := getI_at (List.getElem?_eq_getElem hlt)
      have hw := wS (i := i) (by omega)
      have key : S41_0 n false (s.data.toList) ((s.data.toList).length : Int) (i : Int) = some (.inl (((i + 1 : Nat) : Int))) ∨ ∃ r, S41_0 n false (s.data.toList) ((s.data.toList).length : Int) (i : Int) = some (.inr r) := by
        unfold S41_0
        rw [decide_eq_true (show (i : Int) < _ by omega), hx, hw]
        simp only [cond_true, Option.bind_some]
        repeat' (rw [Bool.cond_eq_ite]; split)
        all_goals simp
      rcases key with k | ⟨r, k⟩
      · exact .inl ⟨_, k, ⟨i + 1, hlt, rfl⟩, by simp; omega⟩
      · exact .inr ⟨r, k, trivial⟩
    · have : i = s.data.toList.length := by omega
      subst this
      refine .inr ⟨true, ?_, trivial⟩
      unfold S41_0
      simp) n 0 ⟨0, Nat.zero_le _, rfl⟩ (by simp; omega)
  exact ⟨r, h⟩
theorem kind_tot (n : Nat) (hn : 16 < n) (s : ByteArray) : ∃ z, g52 n s = some z := by
  unfold g52 g59
  generalize hl : ([(⟨#[72, 69, 73, 71, 72, 84]⟩ : ByteArray), (⟨#[72, 69, 65, 68, 73, 78, 71]⟩ : ByteArray), (⟨#[83, 80, 69, 69, 68]⟩ : ByteArray), (⟨#[68, 73, 82, 69, 67, 84]⟩ : ByteArray), (⟨#[72, 79, 76, 68]⟩ : ByteArray), (⟨#[67, 79, 78, 84, 65, 67, 84]⟩ : ByteArray), (⟨#[76, 65, 78, 68]⟩ : ByteArray)] : List ByteArray) = l
  have hlen : l.length = 7 := by rw [← hl]; rfl
  have e := index_loop (fun x : ByteArray => s.toList == x.toList) l (by omega) (S := fun y : Int => S59_0 n l s 0 (l.length : Int) y) (fun i x hx => by
    have := some_lt hx
    unfold S59_0
    rw [decide_eq_true (show (i : Int) < _ by omega), getI_at hx, wS (by omega)]
    simp only [cond_true, Option.bind_some]
    by_cases h : (s.toList == x.toList) = true <;> simp [h]) (by
    unfold S59_0
    simp) n (by omega)
  rw [e]
  exact ⟨_, rfl⟩
theorem pname_tot (n : Nat) (hn : 16 < n) (s : ByteArray) : ∃ b, g39 n s = some b := by
  unfold g39
  obtain ⟨b, hb⟩ := name_tot n hn s
  obtain ⟨z, hz⟩ := kind_tot n hn s
  rw [hb]
  cases b with
  | false => exact ⟨_, rfl⟩
  | true => simp only [Option.bind_some, cond_true, hz]; exact ⟨_, rfl⟩
theorem phrase_tot (n : Nat) (hn : 16 < n) (c : TClearance) : ∃ z, g26 n c = some z := by
  unfold g26
  obtain ⟨b, hb⟩ := pname_tot n hn c.Call
  obtain ⟨b2, hb2⟩ := pname_tot n hn c.Fix
  rw [hb]
  simp only [Option.bind_some, hb2]
  cases b with
  | false => exact ⟨_, rfl⟩
  | true =>
    simp only [Bool.not_true, cond_false]
    by_cases h1 : c.Kind < 0
    · rw [decide_eq_true h1]; exact ⟨_, rfl⟩
    by_cases h2 : c.Kind > 6
    · rw [decide_eq_false h1, decide_eq_true h2]; exact ⟨_, rfl⟩
    rw [decide_eq_false h1, decide_eq_false h2]
    simp only [cond_false]
    by_cases h3 : c.Kind > 2
    · rw [decide_eq_true h3, cond_true]
      cases (c.Value != 0) <;> cases b2 <;> exact ⟨_, rfl⟩
    · rw [decide_eq_false h3, cond_false]
      obtain ⟨x, hx⟩ : ∃ x, getI ([60000, 4095, 400] : List Int) c.Kind = some x := by
        rcases (by omega : c.Kind = 0 ∨ c.Kind = 1 ∨ c.Kind = 2) with h | h | h <;> rw [h] <;> exact ⟨_, rfl⟩
      rw [hx]
      simp only [Option.bind_some]
      cases (!(c.Fix.toList == (⟨#[]⟩ : ByteArray).toList)) <;> cases decide (c.Value < 0) <;> cases decide (c.Value > x) <;> exact ⟨_, rfl⟩
theorem craft_tot (n : Nat) (hn : 16 < n) (k : TKind) : ∃ z, g28 n k = some z ∧ (z = 0 → 1 ≤ k.Climb ∧ k.Climb ≤ 200 ∧ 1 ≤ k.Descent ∧ k.Descent ≤ 200 ∧ 1 ≤ k.Slow ∧ k.Fast ≤ 400 ∧ 1 ≤ k.Ceiling ∧ k.Ceiling ≤ 60000) := by
  unfold g28
  obtain ⟨b, hb⟩ := name_tot n hn k.Name
  have w : ∀ x m : Int, ∃ c : Bool, g40 n x m = some c ∧ (c = false → 1 ≤ x ∧ x ≤ m) := fun x m => by
    unfold g40
    by_cases h : x < 1
    · rw [decide_eq_true h]; exact ⟨true, rfl, fun h => by cases h⟩
    · rw [decide_eq_false h]; exact ⟨_, rfl, fun h2 => by have := of_decide_eq_false h2; omega⟩
  obtain ⟨c1, e1, k1⟩ := w k.Ceiling 60000
  obtain ⟨c2, e2, k2⟩ := w k.Climb 200
  obtain ⟨c3, e3, k3⟩ := w k.Descent 200
  obtain ⟨c4, e4, k4⟩ := w k.Slow 400
  obtain ⟨c5, e5, k5⟩ := w k.Fast 400
  rw [hb, e1, e2, e3, e4, e5]
  simp only [Option.bind_some]
  cases b
  · exact ⟨5, rfl, fun h => by cases h⟩
  simp only [Bool.not_true, cond_false]
  cases decide (k.Wake < 0) with
  | true => exact ⟨1, rfl, fun h => by cases h⟩
  | false =>
  cases decide (k.Wake > 3) with
  | true => exact ⟨1, rfl, fun h => by cases h⟩
  | false =>
  simp only [cond_false]
  cases c1 with
  | true => exact ⟨4, rfl, fun h => by cases h⟩
  | false =>
  cases c2 with
  | true => exact ⟨4, rfl, fun h => by cases h⟩
  | false =>
  cases c3 with
  | true => exact ⟨4, rfl, fun h => by cases h⟩
  | false =>
  cases c4 with
  | true => exact ⟨4, rfl, fun h => by cases h⟩
  | false =>
  cases c5 with
  | true => exact ⟨4, rfl, fun h => by cases h⟩
  | false =>
  cases decide (k.Slow > k.Fast)
  · exact ⟨0, rfl, fun _ => ⟨(k2 rfl).1, (k2 rfl).2, (k3 rfl).1, (k3 rfl).2, (k4 rfl).1, (k5 rfl).2, (k1 rfl).1, (k1 rfl).2⟩⟩
  · exact ⟨3, rfl, fun h => by cases h⟩
def bef (l : List TTubeNode) (t : Int) : List TTubeNode := l.filter fun x => decide (x.Node_Time < t)
def lat (l : List TTubeNode) (t : Int) : List TTubeNode := l.filter fun x => decide (x.Node_Time > t)
def tsk (l : List TTubeNode) (c : TClearance) (t : Int) (now : TTubeNode) (k : TKind) (fix : TP) : Ttask :=
  ⟨c.Call, c.Kind, c.Value, c.Fix, bef l t, lat l t, now.Node_Time, now.Node_At_X, now.Node_At_Y, now.Node_Height, now.Radius, now.Band, k.Name, k.Wake, k.Ceiling, k.Climb, k.Descent, k.Slow, k.Fast, fix.X, fix.Y, l⟩
def ofEnd (n : Nat) (l : List TTubeNode) (c : TClearance) (t : Int) (now : TTubeNode) (k : TKind) (fix : TP) : Option (List TTubeNode × Int) :=
  (g31 n (tsk l c t now k fix)).bind fun x =>
    bif (x.2.2 != (0)) then some ([], x.2.2) else
    bif x.2.1 then (roomO l.length 48).bind fun _ => some (l, (0)) else
    (catO 48 ([bef l t, ([(⟨now.Node_Time, now.Node_At_X, now.Node_At_Y, now.Node_Height, now.Radius, now.Band⟩ : TTubeNode)] : List TTubeNode), x.1] : List (List TTubeNode))).bind fun y => bif (decide ((y.length : Int) > (64))) then some ([], (2)) else some (y, (0))
theorem take_one {α : Type} {l : List α} {i : Nat} {x : α} (h : l[i]? = some x) : l.take (i + 1) = l.take i ++ [x] := by rw [List.take_add_one, h]; rfl
def ost (l : List TTubeNode) (c : TClearance) (t : Int) (now : TTubeNode) (k : TKind) (fix : TP) (i : Nat) : Int × List TTubeNode × List TTubeNode × ByteArray × Int × Int × ByteArray × Int × Int × Int × Int × Int × Int × ByteArray × Int × Int × Int × Int × Int × Int × Int × Int × List TTubeNode :=
  ((i : Int), bef (l.take i) t, lat (l.take i) t, c.Call, c.Kind, c.Value, c.Fix, now.Node_Time, now.Node_At_X, now.Node_At_Y, now.Node_Height, now.Radius, now.Band, k.Name, k.Wake, k.Ceiling, k.Climb, k.Descent, k.Slow, k.Fast, fix.X, fix.Y, l)
theorem of_loop (n : Nat) (l : List TTubeNode) (hl : l.length ≤ 64) (c : TClearance) (t c11 c16 : Int) (now : TTubeNode) (k : TKind) (fix : TP) {S : (Int × List TTubeNode × List TTubeNode × ByteArray × Int × Int × ByteArray × Int × Int × Int × Int × Int × Int × ByteArray × Int × Int × Int × Int × Int × Int × Int × Int × List TTubeNode) → Option ((Int × List TTubeNode × List TTubeNode × ByteArray × Int × Int × ByteArray × Int × Int × Int × Int × Int × Int × ByteArray × Int × Int × Int × Int × Int × Int × Int × Int × List TTubeNode) ⊕ (List TTubeNode × Int))}
    (hS : ∀ (i : Nat) (B L : List TTubeNode), S ((i : Int), B, L, (ost l c t now k fix 0).2.2.2) = S11_1 n t c11 c16 l (l.length : Int) now.Node_Time now.Node_At_X now.Node_At_Y now.Node_Height now.Radius now.Band (i : Int) B L c.Call c.Kind c.Value c.Fix now.Node_Time now.Node_At_X now.Node_At_Y now.Node_Height now.Radius now.Band k.Name k.Wake k.Ceiling k.Climb k.Descent k.Slow k.Fast fix.X fix.Y l) :
    ∀ (d i m : Nat), i + d = l.length → d < m → iterO S m (ost l c t now k fix i) = ofEnd n l c t now k fix
  | 0, i, m, hi, hm => by
    obtain ⟨q, rfl⟩ : ∃ q, m = q + 1 := ⟨m - 1, by omega⟩
    have e : S (ost l c t now k fix i) = (ofEnd n l c t now k fix).map Sum.inr := by
      have hi' : i = l.length := by omega
      subst hi'
      rw [show ost l c t now k fix l.length = (((l.length : Nat) : Int), bef l t, lat l t, (ost l c t now k fix 0).2.2.2) from by unfold ost; rw [List.take_length], hS]
      unfold S11_1 ofEnd
      rw [decide_eq_false (Int.lt_irrefl _), cond_false]
      show (g31 n (tsk l c t now k fix)).bind _ = _
      cases g31 n (tsk l c t now k fix) with
      | none => rfl
      | some x =>
        simp only [Option.bind_some]
        cases (x.2.2 != 0)
        · cases x.2.1
          · simp only [cond_false]
            cases catO 48 ([bef l t, ([(⟨now.Node_Time, now.Node_At_X, now.Node_At_Y, now.Node_Height, now.Radius, now.Band⟩ : TTubeNode)] : List TTubeNode), x.1] : List (List TTubeNode)) with
            | none => rfl
            | some y =>
              simp only [Option.bind_some]
              cases decide ((y.length : Int) > 64) <;> rfl
          · simp only [cond_false, cond_true]
            cases roomO l.length 48 <;> rfl
        · rfl
    simp only [iterO, e]
    cases ofEnd n l c t now k fix <;> rfl
  | d + 1, i, m, hi, hm => by
    obtain ⟨q, rfl⟩ : ∃ q, m = q + 1 := ⟨m - 1, by omega⟩
    have hlt : i < l.length := by omega
    have hx : l[i]? = some l[i] := List.getElem?_eq_getElem hlt
    have e : S (ost l c t now k fix i) = some (.inl (ost l c t now k fix (i + 1))) := by
      rw [show ost l c t now k fix i = ((i : Int), bef (l.take i) t, lat (l.take i) t, (ost l c t now k fix 0).2.2.2) from rfl, hS]
      rw [show ost l c t now k fix (i + 1) = (((i + 1 : Nat) : Int), bef (l.take (i + 1)) t, lat (l.take (i + 1)) t, (ost l c t now k fix 0).2.2.2) from rfl, take_one hx]
      unfold S11_1 bef lat
      rw [decide_eq_true (show (i : Int) < (l.length : Int) by omega), cond_true, getI_at hx, Option.bind_some, wS (by omega)]
      have r1 : roomO (((l.take i).filter fun x => decide (x.Node_Time < t)).length + ([l[i]] : List TTubeNode).length) 48 = some () := by
        have h1 := List.length_filter_le (fun x : TTubeNode => decide (x.Node_Time < t)) (l.take i)
        have h2 : (l.take i).length ≤ 64 := by rw [List.length_take]; omega
        exact room_of (by simp only [List.length_singleton]; omega) (by simp only [List.length_singleton]; omega)
      have r2 : roomO (((l.take i).filter fun x => decide (x.Node_Time > t)).length + ([l[i]] : List TTubeNode).length) 48 = some () := by
        have h1 := List.length_filter_le (fun x : TTubeNode => decide (x.Node_Time > t)) (l.take i)
        have h2 : (l.take i).length ≤ 64 := by rw [List.length_take]; omega
        exact room_of (by simp only [List.length_singleton]; omega) (by simp only [List.length_singleton]; omega)
      rw [r1, r2, List.filter_append, List.filter_append]
      simp only [Option.bind_some, List.filter_cons, List.filter_nil]
      by_cases a1 : l[i].Node_Time < t
      · have a2 : ¬ l[i].Node_Time > t := by omega
        simp only [a1, a2, decide_true, decide_false, cond_true, cond_false, if_true, Bool.false_eq_true, if_false, List.append_nil]
        rfl
      · by_cases a2 : l[i].Node_Time > t
        · simp only [a1, a2, decide_true, decide_false, cond_true, cond_false, if_true, Bool.false_eq_true, if_false, List.append_nil]
          rfl
        · simp only [a1, a2, decide_true, decide_false, cond_true, cond_false, if_true, Bool.false_eq_true, if_false, List.append_nil]
          rfl
    simp only [iterO, e]
    exact of_loop n l hl c t c11 c16 now k fix hS d (i + 1) q (by omega) (by omega)
theorem of_cases (n : Nat) (hn : 300 < n) (l : List TTubeNode) (c : TClearance) (t : Int) (k : TKind) (fix : TP) : (∃ z, z ≠ 0 ∧ g11 n l c t k fix = some ([], z)) ∨
    (g12 n l = some 0 ∧ TubeOk l ∧ g28 n k = some 0 ∧ POk fix ∧ ∃ now, g13 n l t = some (now, 0) ∧ g11 n l c t k fix = ofEnd n l c t now k fix) := by
  have run : ∀ (s : Nat → Option (Int ⊕ (List TTubeNode × Int))), True := fun _ => trivial
  obtain ⟨m, rfl⟩ : ∃ m, n = m + 5 := ⟨n - 5, by omega⟩
  have w0 : IntKind.wrap .i64 ((0 : Int) + 1) = 1 := by rw [wrap64 (by decide) (by decide)]; rfl
  have w1 : IntKind.wrap .i64 ((1 : Int) + 1) = 2 := by rw [wrap64 (by decide) (by decide)]; rfl
  have w2 : IntKind.wrap .i64 ((2 : Int) + 1) = 3 := by rw [wrap64 (by decide) (by decide)]; rfl
  have w3 : IntKind.wrap .i64 ((3 : Int) + 1) = 4 := by rw [wrap64 (by decide) (by decide)]; rfl
  show (∃ z, z ≠ 0 ∧ iterO (fun y : Int => S11_0 (m + 5) t 0 4 l c.Call c.Kind c.Value c.Fix k.Name k.Wake k.Ceiling k.Climb k.Descent k.Slow k.Fast fix.X fix.Y y) (m + 5) 0 = some ([], z)) ∨ (_ ∧ _ ∧ _ ∧ _ ∧ ∃ now, _ ∧ iterO (fun y : Int => S11_0 (m + 5) t 0 4 l c.Call c.Kind c.Value c.Fix k.Name k.Wake k.Ceiling k.Climb k.Descent k.Slow k.Fast fix.X fix.Y y) (m + 5) 0 = _)
  generalize hN : m + 5 = N at *
  have s0 : S11_0 N t 0 4 l c.Call c.Kind c.Value c.Fix k.Name k.Wake k.Ceiling k.Climb k.Descent k.Slow k.Fast fix.X fix.Y 0 = (g12 N l).bind fun x => bif (x != 0) then some (.inr ([], x)) else some (.inl 1) := by
    unfold S11_0 g24
    rw [w0]
    cases g12 N l <;> rfl
  have s1 : S11_0 N t 0 4 l c.Call c.Kind c.Value c.Fix k.Name k.Wake k.Ceiling k.Climb k.Descent k.Slow k.Fast fix.X fix.Y 1 = (g26 N c).bind fun x => bif (x != 0) then some (.inr ([], x)) else some (.inl 2) := by
    unfold S11_0 g25
    rw [w1]
    show ((g26 N c).bind fun x => some x).bind _ = _
    cases g26 N c <;> rfl
  have s2 : S11_0 N t 0 4 l c.Call c.Kind c.Value c.Fix k.Name k.Wake k.Ceiling k.Climb k.Descent k.Slow k.Fast fix.X fix.Y 2 = (g28 N k).bind fun x => bif (x != 0) then some (.inr ([], x)) else some (.inl 3) := by
    unfold S11_0 g27
    rw [w2]
    show ((g28 N k).bind fun x => some x).bind _ = _
    cases g28 N k <;> rfl
  have s3 : S11_0 N t 0 4 l c.Call c.Kind c.Value c.Fix k.Name k.Wake k.Ceiling k.Climb k.Descent k.Slow k.Fast fix.X fix.Y 3 = (g30 N fix).bind fun x => bif (x != 0) then some (.inr ([], x)) else some (.inl 4) := by
    unfold S11_0 g29
    rw [w3]
    show ((g30 N fix).bind fun x => some x).bind _ = _
    cases g30 N fix <;> rfl
  rw [← hN]
  simp only [iterO]
  rw [hN, s0]
  rcases check_tot N (by omega) l with ⟨ec, ok⟩ | ⟨z, hz, ec⟩
  case inr => left; refine ⟨z, hz, ?_⟩; rw [ec, Option.bind_some, bne_iff_ne.2 hz, cond_true]
  rw [ec, Option.bind_some, show ((0 : Int) != 0) = false from rfl, cond_false]
  simp only [s1]
  obtain ⟨z1, e1⟩ := phrase_tot N (by omega) c
  rw [e1, Option.bind_some]
  by_cases hz1 : z1 = 0
  case neg => left; refine ⟨z1, hz1, ?_⟩; rw [bne_iff_ne.2 hz1, cond_true]
  subst hz1
  rw [show ((0 : Int) != 0) = false from rfl, cond_false]
  simp only [s2]
  obtain ⟨z2, e2, -⟩ := craft_tot N (by omega) k
  rw [e2, Option.bind_some]
  by_cases hz2 : z2 = 0
  case neg => left; refine ⟨z2, hz2, ?_⟩; rw [bne_iff_ne.2 hz2, cond_true]
  subst hz2
  rw [show ((0 : Int) != 0) = false from rfl, cond_false]
  simp only [s3]
  rcases pcheck N fix with ⟨e3, hp⟩ | ⟨e3, -⟩
  case inr => left; refine ⟨4, by decide, ?_⟩; rw [e3]; rfl
  rw [e3, Option.bind_some, show ((0 : Int) != 0) = false from rfl, cond_false]
  have hp0 := ok.pos
  have h0 : l[0]? = some l[0] := List.getElem?_eq_getElem hp0
  have h1 : l[l.length - 1]? = some l[l.length - 1] := List.getElem?_eq_getElem (by omega)
  have s4 : S11_0 N t 0 4 l c.Call c.Kind c.Value c.Fix k.Name k.Wake k.Ceiling k.Climb k.Descent k.Slow k.Fast fix.X fix.Y 4 = (g13 N l t).bind fun x => bif (x.2 != 0) then some (.inr ([], x.2)) else (ofEnd N l c t x.1 k fix).map Sum.inr := by
    unfold S11_0
    rw [show decide ((4 : Int) < 4) = false from rfl, cond_false]
    cases g13 N l t with
    | none => rfl
    | some x =>
      simp only [Option.bind_some]
      cases (x.2 != 0)
      · simp only [cond_false]
        rw [← of_loop N l ok.len c t 0 x.2 x.1 k fix (S := fun y => S11_1 N t 0 x.2 l (l.length : Int) x.1.Node_Time x.1.Node_At_X x.1.Node_At_Y x.1.Node_Height x.1.Radius x.1.Band y.1 y.2.1 y.2.2.1 y.2.2.2.1 y.2.2.2.2.1 y.2.2.2.2.2.1 y.2.2.2.2.2.2.1 y.2.2.2.2.2.2.2.1 y.2.2.2.2.2.2.2.2.1 y.2.2.2.2.2.2.2.2.2.1 y.2.2.2.2.2.2.2.2.2.2.1 y.2.2.2.2.2.2.2.2.2.2.2.1 y.2.2.2.2.2.2.2.2.2.2.2.2.1 y.2.2.2.2.2.2.2.2.2.2.2.2.2.1 y.2.2.2.2.2.2.2.2.2.2.2.2.2.2.1 y.2.2.2.2.2.2.2.2.2.2.2.2.2.2.2.1 y.2.2.2.2.2.2.2.2.2.2.2.2.2.2.2.2.1 y.2.2.2.2.2.2.2.2.2.2.2.2.2.2.2.2.2.1 y.2.2.2.2.2.2.2.2.2.2.2.2.2.2.2.2.2.2.1 y.2.2.2.2.2.2.2.2.2.2.2.2.2.2.2.2.2.2.2.1 y.2.2.2.2.2.2.2.2.2.2.2.2.2.2.2.2.2.2.2.2.1 y.2.2.2.2.2.2.2.2.2.2.2.2.2.2.2.2.2.2.2.2.2.1 y.2.2.2.2.2.2.2.2.2.2.2.2.2.2.2.2.2.2.2.2.2.2) (fun i B L => rfl) l.length 0 N (by omega) (by have := ok.len; omega)]
        rfl
      · rfl
  simp only [s4]
  rcases At_cases N (by omega) l ok ec t _ _ h0 h1 with ⟨-, -, now, -, e4⟩ | ⟨-, e4⟩
  case inr => left; refine ⟨12, by decide, ?_⟩; rw [e4]; rfl
  right
  refine ⟨by first | exact ec | trivial, ok, by first | exact e2 | trivial, hp, now, e4, ?_⟩
  rw [e4, Option.bind_some, show ((0 : Int) != 0) = false from rfl, cond_false]
  cases ofEnd N l c t now k fix <;> rfl
end Go.Proofs.YtpjepkldnnfncaaDoor
