/- The fact skyway/skywaykeep3.jointFact, by the evaluator that knows some answers from the plain programs. -/
import Derived.Test.YtlgbioidkbeanaaJdH
import Derived.Test.YtlgbioidkbeanaaPY
set_option linter.unusedVariables false
set_option linter.unusedSimpArgs false
set_option maxRecDepth 100000
namespace Go.Proofs.Ytlgbioidkbeanaa
open Go.RowKit Go.Shelf

def beqV : Value → Value → Bool
  | .int k z, .int k' z' => decide (k = k') && decide (z = z')
  | .string s, .string s' => decide (s = s')
  | _, _ => false
theorem beqV_eq {a b : Value} (h : beqV a b = true) : a = b := by
  unfold beqV at h
  split at h
  · simp at h; rw [h.1, h.2]
  · simp at h; rw [h]
  · cases h
mutual
def beqA : AV → AV → Bool
  | .sc v, .sc v' => beqV v v'
  | .agg l, .agg l' => beqAs l l'
  | .lst n l ex, .lst n' l' ex' => Nat.beq n n' && beqAs l l' && (ex == ex')
  | _, _ => false
def beqAs : List AV → List AV → Bool
  | [], [] => true
  | x :: xs, y :: ys => beqA x y && beqAs xs ys
  | _, _ => false
end
mutual
theorem beqA_eq : ∀ (a b : AV), beqA a b = true → a = b
  | .sc v, b, h => by
    cases b <;> simp only [beqA, Bool.false_eq_true] at h
    rw [beqV_eq h]
  | .agg l, b, h => by
    cases b <;> simp only [beqA, Bool.false_eq_true] at h
    rw [beqAs_eq _ _ h]
  | .lst n l ex, b, h => by
    cases b <;> simp only [beqA, Bool.false_eq_true, Bool.and_eq_true] at h
    obtain ⟨⟨h1, h2⟩, h3⟩ := h
    rw [Nat.eq_of_beq_eq_true h1, beqAs_eq _ _ h2, beq_iff_eq.1 h3]
  | .und, b, h => by simp [beqA] at h
  | .tup _, b, h => by simp [beqA] at h
  | .nilp, b, h => by simp [beqA] at h
  | .ptr .., b, h => by simp [beqA] at h
  | .ept .., b, h => by simp [beqA] at h
  | .nils, b, h => by simp [beqA] at h
  | .sl .., b, h => by simp [beqA] at h
  | .fn .., b, h => by simp [beqA] at h
  | .ifc _, b, h => by simp [beqA] at h
theorem beqAs_eq : ∀ (a b : List AV), beqAs a b = true → a = b
  | [], [], _ => rfl
  | x :: xs, y :: ys, h => by
    simp only [beqAs, Bool.and_eq_true] at h
    rw [beqA_eq _ _ h.1, beqAs_eq _ _ h.2]
  | [], _ :: _, h => by simp [beqAs] at h
  | _ :: _, [], h => by simp [beqAs] at h
end
def tub (x : Int) : List TTubeNode := [⟨0, x, 0, 0, 0, 0⟩, ⟨10, x, 0, 0, 0, 0⟩]
def L0 : List (List TJointOption) := [[⟨0, tub 0⟩], [⟨0, tub 0⟩, ⟨5, tub 200⟩]]
def L1 : List (List TJointOption) := [[⟨0, tub 0⟩], [⟨0, tub 0⟩]]
def S0 : TSep := ⟨100, 1000⟩
def R0 : List TJointRefuted := [⟨[0, 0], 0⟩]
def sepA (s : TSep) : AV := AV.agg [intA s.Lateral, intA s.Vertical]
def optA (l : List (List TJointOption)) : AV := lstA (lstE TJointOption.E) l
def bstA (r : List Int × Int × Int) : AV := .tup [lstA intE r.1, intA r.2.1, intA r.2.2]
def rftA (r : List TJointRefuted × Int) : AV := .tup [lstA TJointRefuted.E r.1, intA r.2]
def pick0 (a : AV) : Option (List (List TJointOption)) := bif beqA a (optA L0) then some L0 else bif beqA a (optA L1) then some L1 else none
def pickR (a : AV) : Option (List TJointRefuted) := match a with
  | .nils => some []
  | a => bif beqA a (lstA TJointRefuted.E R0) then some R0 else none
def sp0 : CallF := fun f args m nx => match mapO (snap (mget m) 6) args with
  | some [a, b] => bif beqA b (sepA S0) then (bif f == 9 then (pick0 a).bind fun l => (g9 1000 l S0).map fun r => (bstA r, m, nx) else bif f == 10 then (pick0 a).bind fun l => (g10 1000 l S0).map fun r => (rftA r, m, nx) else none) else none
  | some [a, b, d] => bif beqA b (sepA S0) then (bif f == 11 then (pick0 a).bind fun l => (pickR d).bind fun q => (g11 1000 l S0 q).map fun r => (intA r, m, nx) else none) else none
  | _ => none
theorem bif_then {α : Type} {b : Bool} {x : Option α} {y : α} (h : (bif b then x else none) = some y) : b = true ∧ x = some y := by
  cases b
  · cases h
  · exact ⟨rfl, h⟩
theorem bif_or {α : Type} {b : Bool} {x z : Option α} {y : α} (h : (bif b then x else z) = some y) : (b = true ∧ x = some y) ∨ z = some y := by
  cases b
  · exact .inr h
  · exact .inl ⟨rfl, h⟩
theorem pick0_eq {a : AV} {l : List (List TJointOption)} (h : pick0 a = some l) : a = optA l := by
  unfold pick0 at h
  rcases bif_or h with ⟨h1, h2⟩ | h1
  · cases h2; exact beqA_eq _ _ h1
  · obtain ⟨h3, h4⟩ := bif_then h1
    cases h4; exact beqA_eq _ _ h3
theorem pickR_rel {c : Cx} {a : AV} {l : List TJointRefuted} {v : Value} (h : pickR a = some l) (r : VRel c a v) : VRel c (lstA TJointRefuted.E l) v := by
  unfold pickR at h
  split at h
  · cases h
    cases r
    exact .lst0 none 0 false (fun h => by cases h) (Nat.zero_le _) (fun _ => rfl)
  · obtain ⟨h1, h2⟩ := bif_then h
    cases h2
    rwa [beqA_eq _ _ h1] at r
theorem vis_bare {gl : Nat → Option (List AV)} {B : Nat} {c : Cx} (g : Good B c) (hgl : GlobOk gl c) : Bare (c.alone c.no) ∧ (∀ i, c.stable i → (c.alone c.no).stable i) ∧ (∀ i, c.own i → (c.alone c.no).stable i) ∧ GlobOk gl (c.alone c.no) := by
  have hBs := g.hB
  have Bb : Bare (c.alone c.no) := ⟨fun _ => rfl, fun i hi => by show i < c.w.heap.size; have : i < B := g.nol i hi; omega⟩
  have st : ∀ i, c.stable i → (c.alone c.no).stable i := fun i ⟨q1, q2, q3⟩ => ⟨q1, Bb.own i, q3⟩
  refine ⟨Bb, st, ?_, GlobOk.clean_to (c := c) (c0 := c.alone c.no) rfl st hgl⟩
  rintro i ⟨id, blk, q1, q2⟩
  have hlow := (g.low id blk q1).1
  have hlt := g.lt q1
  refine ⟨by show i < c.w.heap.size; omega, Bb.own i, fun hn => ?_⟩
  have : i < B := g.nol i hn
  omega
theorem sp0_ok : CallOk Try.prog KF.gl sp0 := by
  intro f args m nx v m' nx' h
  unfold sp0 at h
  split at h
  · rename_i a b har
    obtain ⟨hb, h1⟩ := bif_then h
    obtain rfl := beqA_eq _ _ hb
    rcases bif_or h1 with ⟨hf, h2⟩ | h2
    · obtain rfl := beq_iff_eq.1 hf
      obtain ⟨l, hl, h3⟩ := Option.bind_eq_some_iff.1 h2
      obtain ⟨r, hr0, e⟩ := Option.map_eq_some_iff.1 h3
      cases e
      rw [pick0_eq hl] at har
      refine ⟨⟨Try.f9, _, Try.func9, rfl, by kernel_rfl⟩, fun B c vals g hgl hM ha hr => ?_⟩
      obtain ⟨Bb, st, so, hgb⟩ := vis_bare g hgl
      have hrr : Rels (c.alone c.no) [optA l, sepA S0] vals := mapO_rel (fun z _ u y r h => snap_rel (c := c) (c0 := c.alone c.no) g rfl st so (look := mget m) (fun id b hb => by rw [hM]; exact hb) 6 r h) hr har
      cases hrr with
      | cons r1 hrr =>
      cases hrr with
      | cons r2 hrr =>
      cases hrr
      obtain rfl := sep_of (s := S0) r2
      refine (best_calls sgJ hr0 (rel_in (c := c.alone c.no) r1 (lstA_clean _ _))).mono ?_
      rintro e w' ⟨v, rfl, hk, hv⟩
      exact ⟨_, { c with w := w' }, rfl, rfl, .tup (vs := [v, .int .i64 r.2.1, .int .i64 r.2.2]) (.cons (rel_out g hv (lstA_clean _ _)) (.cons (.sc _ rfl) (.cons (.sc _ rfl) .nil))), kept_step hk, kept_good g hk, hM, ha⟩
    · obtain ⟨hf, h2⟩ := bif_then h2
      obtain rfl := beq_iff_eq.1 hf
      obtain ⟨l, hl, h3⟩ := Option.bind_eq_some_iff.1 h2
      obtain ⟨r, hr0, e⟩ := Option.map_eq_some_iff.1 h3
      cases e
      rw [pick0_eq hl] at har
      refine ⟨⟨Try.f10, _, Try.func10, rfl, by kernel_rfl⟩, fun B c vals g hgl hM ha hr => ?_⟩
      obtain ⟨Bb, st, so, hgb⟩ := vis_bare g hgl
      have hrr : Rels (c.alone c.no) [optA l, sepA S0] vals := mapO_rel (fun z _ u y r h => snap_rel (c := c) (c0 := c.alone c.no) g rfl st so (look := mget m) (fun id b hb => by rw [hM]; exact hb) 6 r h) hr har
      cases hrr with
      | cons r1 hrr =>
      cases hrr with
      | cons r2 hrr =>
      cases hrr
      obtain rfl := sep_of (s := S0) r2
      refine (refute_calls sgJ hr0 (rel_in (c := c.alone c.no) r1 (lstA_clean _ _))).mono ?_
      rintro e w' ⟨v, rfl, hk, hv⟩
      exact ⟨_, { c with w := w' }, rfl, rfl, .tup (vs := [v, .int .i64 r.2]) (.cons (rel_out g hv (lstA_clean _ _)) (.cons (.sc _ rfl) .nil)), kept_step hk, kept_good g hk, hM, ha⟩
  · rename_i a b d har
    obtain ⟨hb, h1⟩ := bif_then h
    obtain rfl := beqA_eq _ _ hb
    obtain ⟨hf, h2⟩ := bif_then h1
    obtain rfl := beq_iff_eq.1 hf
    obtain ⟨l, hl, h3⟩ := Option.bind_eq_some_iff.1 h2
    obtain ⟨q, hq, h4⟩ := Option.bind_eq_some_iff.1 h3
    obtain ⟨r, hr0, e⟩ := Option.map_eq_some_iff.1 h4
    cases e
    rw [pick0_eq hl] at har
    refine ⟨⟨Try.f11, _, Try.func11, rfl, by kernel_rfl⟩, fun B c vals g hgl hM ha hr => ?_⟩
    obtain ⟨Bb, st, so, hgb⟩ := vis_bare g hgl
    have hrr : Rels (c.alone c.no) [optA l, sepA S0, d] vals := mapO_rel (fun z _ u y r h => snap_rel (c := c) (c0 := c.alone c.no) g rfl st so (look := mget m) (fun id b hb => by rw [hM]; exact hb) 6 r h) hr har
    cases hrr with
    | cons r1 hrr =>
    cases hrr with
    | cons r2 hrr =>
    cases hrr with
    | cons r3 hrr =>
    cases hrr
    obtain rfl := sep_of (s := S0) r2
    refine (refuted_calls sgJ sgR hr0 (rel_in (c := c.alone c.no) r1 (lstA_clean _ _)) (rel_in (c := c.alone c.no) (pickR_rel hq r3) (lstA_clean _ _))).mono ?_
    rintro e w' ⟨rfl, hk⟩
    exact ⟨_, { c with w := w' }, rfl, rfl, .sc _ rfl, kept_step hk, kept_good g hk, hM, ha⟩
  · cases h
theorem ev_joint : evalsToY Try.prog KF sp0 300 7 = some true := by decide +kernel
theorem sg7 {n : Nat} {t : ρ7} (h : g7 n = some t) : Says Try.prog KK.gl 7 [] (boolA t) := by
  cases h
  exact says_of_evalsY (K := KF) fol sp0_ok (k := 300) ev_joint
end Go.Proofs.Ytlgbioidkbeanaa
