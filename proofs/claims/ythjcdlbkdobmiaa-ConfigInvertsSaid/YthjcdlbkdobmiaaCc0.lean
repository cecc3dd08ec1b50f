/- Names, find, Moves (from Cf2, without the law ConfigMovings). -/
import Derived.Test.YthjcdlbkdobmiaaCf1
set_option linter.unusedVariables false
set_option linter.unusedSimpArgs false
namespace Go.Proofs.Ythjcdlbkdobmiaa

theorem sec_sub {a : List TConfigGroup} {g : TConfigGroup} (h : g ∈ a) : g.Sectors.length ≤ (a.flatMap (·.Sectors)).length := by
  obtain ⟨s, t, rfl⟩ := List.append_of_mem h
  rw [List.flatMap_append, List.flatMap_cons, List.length_append, List.length_append]
  omega
def nms (a : List TConfigGroup) : List ByteArray := sortS (a.flatMap (·.Sectors))
theorem nms_len (a : List TConfigGroup) : (nms a).length = (a.flatMap (·.Sectors)).length := sortS_len _
theorem names_val (n : Nat) (hn : 30 < n) (a : List TConfigGroup) (hc : g11 n a = some 0) (ha : CfOk a) : g7 n a = some (nms a, 0) := by
  unfold g7
  rw [hc, Option.bind_some, show ((0 : Int) != 0) = false from rfl, cond_false]
  have hl := ha.len
  have hall := ha.all
  refine iterO_eq (S := fun y : Int × List ByteArray => S7_0 n (0) a (a.length : Int) y.1 y.2) (fun y => ∃ i : Nat, i ≤ a.length ∧ y = ((i : Int), (a.take i).flatMap (·.Sectors))) _ (fun y => a.length - y.1.toNat) ?_ n _ ⟨0, Nat.zero_le _, rfl⟩ (by show a.length - (0 : Int).toNat < n; omega)
  rintro _ ⟨i, hi, rfl⟩
  show (∃ y, S7_0 n (0) a (a.length : Int) (i : Int) ((a.take i).flatMap (·.Sectors)) = some (.inl y) ∧ _ ∧ _) ∨ S7_0 n (0) a (a.length : Int) (i : Int) ((a.take i).flatMap (·.Sectors)) = some (.inr _)
  rcases Nat.lt_or_ge i a.length with hlt | hge
  · have hx : a[i]? = some a[i] := List.getElem?_eq_getElem hlt
    generalize a[i] = g at hx
    have hm := List.mem_of_getElem? hx
    have hs := sec_sub hm
    have hp : ((a.take i).flatMap (·.Sectors)).length ≤ 12 := by
      have e : a.flatMap (·.Sectors) = (a.take i).flatMap (·.Sectors) ++ (a.drop i).flatMap (·.Sectors) := by rw [← List.flatMap_append, List.take_append_drop]
      rw [e, List.length_append] at hall; omega
    have hne : neO g.Sectors = some () := by
      have := (ha.grp g hm).2
      cases hg : g.Sectors with
      | nil => exact absurd hg this
      | cons _ _ => rfl
    left
    refine ⟨(((i + 1 : Nat) : Int), (a.take (i + 1)).flatMap (·.Sectors)), ?_, ⟨i + 1, hlt, rfl⟩, by show a.length - ((i + 1 : Nat) : Int).toNat < a.length - (i : Int).toNat; omega⟩
    unfold S7_0
    rw [decide_eq_true (show (i : Int) < (a.length : Int) by omega), cond_true, getI_at hx, Option.bind_some, hne, Option.bind_some, room_of (by omega) (by omega), Option.bind_some, wS (by omega), take_one hx]
    simp
  · have hi' : i = a.length := by omega
    subst hi'
    right
    unfold S7_0
    rw [decide_eq_false (Int.lt_irrefl _), cond_false, List.take_length]
    have : lenO (a.flatMap (·.Sectors)) = some () := by unfold lenO; rw [if_pos (by omega)]
    rw [this, Option.bind_some]; rfl
def fnd (a : List TConfigGroup) (s : ByteArray) : ByteArray := match a.find? (fun g => !(!has g.Sectors s)) with | some g => g.Position | none => ⟨#[]⟩
theorem find_val (n : Nat) (hn : 30 < n) (a : List TConfigGroup) (ha : CfOk a) (s : ByteArray) : g27 n a s = some (fnd a s) := by
  have hl := ha.len
  unfold g27
  refine (iter_all (S := fun y : Int => S27_0 n s (⟨#[]⟩ : ByteArray) a (a.length : Int) y) a (fun g => !has g.Sectors s) (fun g => g.Position) ⟨#[]⟩ (fun i g hx => ?_) ?_ n (by omega)).trans (congrArg some ?_)
  · have := some_lt hx
    have := sec_sub (List.mem_of_getElem? hx)
    have := ha.all
    show S27_0 n s (⟨#[]⟩ : ByteArray) a (a.length : Int) (i : Int) = _
    unfold S27_0
    rw [decide_eq_true (show (i : Int) < (a.length : Int) by omega), cond_true, getI_at hx, Option.bind_some, has_val n g.Sectors (by omega) (by omega) s, Option.bind_some, wS (by omega)]
    cases has g.Sectors s <;> rfl
  · show S27_0 n s (⟨#[]⟩ : ByteArray) a (a.length : Int) (a.length : Int) = _
    unfold S27_0
    rw [decide_eq_false (Int.lt_irrefl _)]; rfl
  · unfold fnd
    cases a.find? (fun g => !(!has g.Sectors s)) <;> rfl
theorem fnd_ne {a : List TConfigGroup} (ha : CfOk a) {s : ByteArray} (hs : s ∈ nms a) : ((fnd a s).toList == (⟨#[]⟩ : ByteArray).toList) = false := by
  have hs' : s ∈ a.flatMap (·.Sectors) := (sortS_perm _).mem_iff.1 hs
  obtain ⟨g, hg, hgs⟩ := List.mem_flatMap.1 hs'
  have key : ∃ q ∈ a, fnd a s = q.Position := by
    unfold fnd
    cases hf : a.find? (fun g => !(!has g.Sectors s)) with
    | some q => exact ⟨q, List.mem_of_find?_eq_some hf, rfl⟩
    | none =>
      have := List.find?_eq_none.1 hf g hg
      rw [has_iff.2 hgs] at this
      simp at this
  obtain ⟨q, hq, e⟩ := key
  rw [e, beq_eq_false_iff_ne]
  intro h
  have h1 := (ha.grp q hq).1
  rw [str_inj h] at h1
  exact absurd h1 (by decide)
def mv (a b : List TConfigGroup) (s : ByteArray) : List TConfigMove := bif (fnd a s).toList == (fnd b s).toList then [] else [⟨s, fnd a s, fnd b s⟩]
theorem mv_len (a b : List TConfigGroup) : ∀ l : List ByteArray, (l.flatMap (mv a b)).length ≤ l.length
  | [] => Nat.le_refl _
  | s :: r => by
    have := mv_len a b r
    rw [List.flatMap_cons, List.length_append, List.length_cons]
    have h1 : (mv a b s).length ≤ 1 := by unfold mv; cases ((fnd a s).toList == (fnd b s).toList) <;> simp
    omega
theorem beq_sym (x y : List UInt8) : (x == y) = (y == x) := by
  by_cases h : x = y
  · rw [h]
  · rw [beq_eq_false_iff_ne.2 h, beq_eq_false_iff_ne.2 (Ne.symm h)]
theorem mv_sym (a b : List TConfigGroup) : ∀ l : List ByteArray, (l.flatMap (mv a b)).length = (l.flatMap (mv b a)).length
  | [] => rfl
  | s :: r => by
    have := mv_sym a b r
    rw [List.flatMap_cons, List.length_append, List.flatMap_cons, List.length_append]
    have h1 : (mv a b s).length = (mv b a s).length := by
      unfold mv
      rw [beq_sym (fnd b s).toList]
      cases ((fnd a s).toList == (fnd b s).toList) <;> rfl
    omega
theorem equal_val (n : Nat) (hn : 30 < n) (x y : List ByteArray) (hx : x.length ≤ 12) : g10 n x y = some (decide (x = y)) := by
  unfold g10
  by_cases hl : x.length = y.length
  case neg =>
    rw [bne_iff_ne.2 (show (x.length : Int) ≠ (y.length : Int) by omega), cond_true, decide_eq_false (fun e => hl (by rw [e]))]
  rw [show ((x.length : Int) != (y.length : Int)) = false from by rw [hl]; simp, cond_false]
  refine equal_loop (S := fun z : Int => S10_0 n x y false (x.length : Int) z) x y hl (fun i p q hp hq => ?_) ?_ n (by omega)
  · have := some_lt hp
    show S10_0 n x y false (x.length : Int) (i : Int) = _
    unfold S10_0
    rw [decide_eq_true (show (i : Int) < (x.length : Int) by omega), cond_true, getI_at hp, Option.bind_some, getI_at hq, Option.bind_some, wS (by omega)]
    by_cases h : p = q
    · rw [if_pos h, h]; simp
    · rw [if_neg h, beq_eq_false_iff_ne.2 (fun e => h (str_inj e))]; rfl
  · show S10_0 n x y false (x.length : Int) (x.length : Int) = _
    unfold S10_0
    rw [decide_eq_false (Int.lt_irrefl _)]; rfl
theorem moves_val (n : Nat) (hn : 30 < n) (a b : List TConfigGroup) (ca : g11 n a = some 0) (ha : CfOk a) (cb : g11 n b = some 0) (hb : CfOk b) :
    g12 n a b = some (if nms a = nms b then ((nms a).flatMap (mv a b), 0) else ([], 19)) := by
  have hla : (nms a).length ≤ 12 := by rw [nms_len]; exact ha.all
  unfold g12
  rw [names_val n hn a ca ha, Option.bind_some]
  simp only [show ((0 : Int) != 0) = false from rfl, cond_false]
  rw [names_val n hn b cb hb, Option.bind_some]
  simp only [show ((0 : Int) != 0) = false from rfl, cond_false]
  rw [equal_val n hn _ _ hla, Option.bind_some]
  by_cases he : nms a = nms b
  case neg => rw [decide_eq_false he, Bool.not_false, cond_true, if_neg he]
  rw [decide_eq_true he, Bool.not_true, cond_false, if_pos he]
  refine iterO_eq (S := fun y : Int × List TConfigMove => S12_0 n a b (0) (nms a) ((nms a).length : Int) y.1 y.2) (fun y => ∃ i : Nat, i ≤ (nms a).length ∧ y = ((i : Int), ((nms a).take i).flatMap (mv a b))) _ (fun y => (nms a).length - y.1.toNat) ?_ n _ ⟨0, Nat.zero_le _, rfl⟩ (by show (nms a).length - (0 : Int).toNat < n; omega)
  rintro _ ⟨i, hi, rfl⟩
  show (∃ y, S12_0 n a b (0) (nms a) ((nms a).length : Int) (i : Int) (((nms a).take i).flatMap (mv a b)) = some (.inl y) ∧ _ ∧ _) ∨ S12_0 n a b (0) (nms a) ((nms a).length : Int) (i : Int) (((nms a).take i).flatMap (mv a b)) = some (.inr _)
  rcases Nat.lt_or_ge i (nms a).length with hlt | hge
  · have hx : (nms a)[i]? = some (nms a)[i] := List.getElem?_eq_getElem hlt
    generalize (nms a)[i] = s at hx
    left
    refine ⟨(((i + 1 : Nat) : Int), ((nms a).take (i + 1)).flatMap (mv a b)), ?_, ⟨i + 1, hlt, rfl⟩, by show (nms a).length - ((i + 1 : Nat) : Int).toNat < (nms a).length - (i : Int).toNat; omega⟩
    have hp := mv_len a b ((nms a).take i)
    rw [List.length_take] at hp
    unfold S12_0
    rw [decide_eq_true (show (i : Int) < ((nms a).length : Int) by omega), cond_true, getI_at hx, Option.bind_some, find_val n hn a ha s, Option.bind_some, find_val n hn b hb s, Option.bind_some, wS (by omega), take_one hx, List.flatMap_append]
    have e1 : ([s] : List ByteArray).flatMap (mv a b) = mv a b s := by simp
    rw [e1]
    cases hq : ((fnd a s).toList == (fnd b s).toList) with
    | true =>
      rw [Bool.not_true, cond_false, show mv a b s = [] from by unfold mv; rw [hq]; rfl, List.append_nil]
    | false =>
      rw [Bool.not_false, cond_true, show mv a b s = [⟨s, fnd a s, fnd b s⟩] from by unfold mv; rw [hq]; rfl, room_of (by simp only [List.length_singleton]; omega) (by simp only [List.length_singleton]; omega)]
      rfl
  · have hi' : i = (nms a).length := by omega
    subst hi'
    right
    unfold S12_0
    rw [decide_eq_false (Int.lt_irrefl _), cond_false, List.take_length]
theorem moves_err (n : Nat) (hn : 30 < n) (a b : List TConfigGroup) (h : ∀ z, g11 n a = some z → ∀ y, g11 n b = some y → z ≠ 0 ∨ y ≠ 0) : ∃ z, z ≠ 0 ∧ g12 n a b = some ([], z) := by
  obtain ⟨z, hz, kz⟩ := check_cases n hn a
  obtain ⟨y, hy, ky⟩ := check_cases n hn b
  have bad : ∀ (c : List TConfigGroup) (w : Int), w ≠ 0 → g11 n c = some w → g7 n c = some ([], w) := fun c w hw hc => by
    unfold g7
    rw [hc, Option.bind_some, bne_iff_ne.2 hw, cond_true]
  unfold g12
  by_cases h0 : z = 0
  · subst h0
    have y0 : y ≠ 0 := by
      rcases h 0 hz y hy with k | k
      · exact absurd rfl k
      · exact k
    rw [names_val n hn a hz (kz rfl), Option.bind_some]
    simp only [show ((0 : Int) != 0) = false from rfl, cond_false]
    rw [bad b y y0 hy, Option.bind_some]
    simp only [bne_iff_ne.2 y0, cond_true]
    exact ⟨y, y0, rfl⟩
  · rw [bad a z h0 hz, Option.bind_some]
    simp only [bne_iff_ne.2 h0, cond_true]
    exact ⟨z, h0, rfl⟩
theorem flat_at {α : Type} (l : List ByteArray) (f : ByteArray → List α) (i : Nat) (s : ByteArray) (hs : l[i]? = some s) (x : α) (hx : f s = [x]) : (l.flatMap f)[((l.take i).flatMap f).length]? = some x := by
  have e : l = l.take i ++ s :: l.drop (i + 1) := by
    conv => lhs; rw [← List.take_append_drop i l]
    congr 1
    obtain ⟨hlt, rfl⟩ := List.getElem?_eq_some_iff.1 hs
    rw [List.drop_eq_getElem_cons hlt]
  have e2 : l.flatMap f = (l.take i).flatMap f ++ x :: (l.drop (i + 1)).flatMap f := by
    conv => lhs; rw [e]
    rw [List.flatMap_append, List.flatMap_cons, hx]; rfl
  rw [e2, List.getElem?_append_right (Nat.le_refl _), Nat.sub_self]; rfl
end Go.Proofs.Ythjcdlbkdobmiaa
