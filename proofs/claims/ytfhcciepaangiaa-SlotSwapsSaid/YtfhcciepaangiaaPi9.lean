/- Each operation does in a world what the plain evaluator says (fifth part: operators, the builtin functions). -/
import Derived.Test.YtfhcciepaangiaaPi8
set_option linter.unusedVariables false
set_option linter.unusedSimpArgs false
namespace Go.Proofs.Ytfhcciepaangiaa
open Go.RowKit

section
variable {P : Program} {B n : Nat} {c : Cx} {ev : Operand → Value} {ρ : Operand → Option AV} {look : Nat → Option ABlk} {o : Oper}

theorem fastBin_run {op : BinOp} {x y v : Value} (h : fastBin op x y = some v) (t : TypeId) (X Y : Operand) (w : World) : (do eqGuard op t X Y x y; binOp op t x y : Sem Value).run P w = .ok v w ∧ isSc v = true := by
  unfold fastBin at h
  split at h
  · rename_i k a k' b
    split at h
    · rename_i hk
      subst hk
      cases op <;> simp only [reduceCtorEq, Option.some.injEq] at h <;> first
        | (subst h; refine ⟨?_, rfl⟩; simp [eqGuard, binOp, Op.intArith, Op.intCmp])
        | (cases hb : decide (b = 0) with
           | true => simp [hb] at h
           | false =>
             simp only [hb, cond_false, Option.some.injEq] at h
             subst h
             have hb' : ¬ b = 0 := by simpa using hb
             refine ⟨?_, rfl⟩
             simp [eqGuard, binOp, Op.intDiv, hb'])
    · cases h
  · rename_i a b
    cases op <;> simp only [reduceCtorEq, Option.some.injEq] at h <;> (subst h; refine ⟨?_, rfl⟩; simp [eqGuard, binOp, Op.stringOp])
  · cases h
theorem ok_plain (g : Good B c) (hρ : ∀ x ∈ o.op.operands.toList, ∀ y, ρ x = some y → VRel c y (ev x)) {v : AV} {d : Wr} (h : aPlain P ρ o = some (v, d)) : OpOk P B n c (execOp ev o) v d := by
  unfold aPlain at h
  cases hq : (notSel o.op && allVal ρ o.op.operands.toList) with
  | false => simp only [hq, cond_false, reduceCtorEq] at h
  | true =>
    simp only [hq, cond_true] at h
    simp only [Bool.and_eq_true] at hq
    obtain ⟨q1, q2⟩ := hq
    have hs : ∀ cs b, o.op ≠ .select cs b := by
      intro cs b he
      simp [he, notSel] at q1
    have hcg : execOp (fun x => (opVal ρ x).getD undef) o = execOp ev o := by
      refine execOp_congr o hs fun x hx => ?_
      have hx' : x ∈ o.op.operands.toList := by simpa using hx
      have := List.all_eq_true.1 q2 x hx'
      obtain ⟨u, hu⟩ := Option.isSome_iff_exists.1 this
      unfold opVal at hu
      obtain ⟨y, hy, hu'⟩ := Option.bind_eq_some_iff.1 hu
      have := toVal_eq hu' (hρ x hx' y hy)
      simp [opVal, hy, hu', this]
    rw [hcg] at h
    split at h
    · rename_i u hu
      obtain ⟨y, hy, he⟩ := Option.map_eq_some_iff.1 h
      simp only [Prod.mk.injEq] at he
      obtain ⟨rfl, rfl⟩ := he
      exact .still g (pureRun_run _ _ hu c.w) (ofVal_rel hy c)
    · cases h
theorem run_equal_slice {t e : TypeId} (hu : P.underlying t = some (.slice e)) {a b : Option Addr} {k q k' q' : Nat} (h : a = none ∨ b = none) (w : World) : (Op.equal t (.slice a k q) (.slice b k' q')).run P w = .ok (a.isNone && b.isNone) w := by
  have : ∀ d, (Op.equalIn (d + 1) t (.slice a k q) (.slice b k' q')).run P w = .ok (a.isNone && b.isNone) w := by
    intro d
    cases a <;> cases b <;> simp at h <;> simp [Op.equalIn, run_underlying hu]
  exact this 9999
theorem run_equal_ptr {t e : TypeId} (hu : P.underlying t = some (.pointer e)) {a b : Option Addr} (h : a = none ∨ b = none) (w : World) : (Op.equal t (.pointer a) (.pointer b)).run P w = .ok (a.isNone && b.isNone) w := by
  have : ∀ d, (Op.equalIn (d + 1) t (.pointer a) (.pointer b)).run P w = .ok (a.isNone && b.isNone) w := by
    intro d
    cases a <;> cases b <;> simp at h <;> simp [Op.equalIn, run_underlying hu]
  exact this 9999
theorem aNil_real {y : AV} {s p : Bool} (h : aNil y = some (s, p)) {u : Value} (r : VRel c y u) : (s = true ∧ ∃ a k q, u = .slice a k q ∧ a.isNone = p) ∨ (s = false ∧ ∃ a, u = .pointer a ∧ a.isNone = p) := by
  cases r with
  | nils => simp [aNil] at h; obtain ⟨rfl, rfl⟩ := h; exact .inl ⟨rfl, none, 0, 0, rfl, rfl⟩
  | nilp => simp [aNil] at h; obtain ⟨rfl, rfl⟩ := h; exact .inr ⟨rfl, none, rfl, rfl⟩
  | ptr ha off => simp [aNil] at h; obtain ⟨rfl, rfl⟩ := h; exact .inr ⟨rfl, _, rfl, rfl⟩
  | ept a b d off => simp [aNil] at h; obtain ⟨rfl, rfl⟩ := h; exact .inr ⟨rfl, _, rfl, rfl⟩
  | sl a b d e f g i => simp [aNil] at h; obtain ⟨rfl, rfl⟩ := h; exact .inl ⟨rfl, _, _, _, rfl, rfl⟩
  | lst0 a cap ex he hm hn => simp [aNil] at h
  | lst hb hr hc hn he hm =>
    rename_i b o' k cs vs cap ex
    cases cs with
    | nil => simp [aNil] at h
    | cons x xs => simp [aNil] at h; obtain ⟨rfl, rfl⟩ := h; exact .inl ⟨rfl, _, _, _, rfl, rfl⟩
  | _ => simp [aNil] at h
theorem nil_run {op : BinOp} {t : TypeId} {a b : AV} {s p s' q : Bool} (ha : aNil a = some (s, p)) (hb : aNil b = some (s', q)) (hq : ((p || q) && nilTy P t s s') = true) {x y : Value} (hx : VRel c a x) (hy : VRel c b y) (X Y : Operand) (w : World) :
    (op = .eql → (do eqGuard op t X Y x y; binOp op t x y : Sem Value).run P w = .ok (.bool (p && q)) w) ∧ (op = .neq → (do eqGuard op t X Y x y; binOp op t x y : Sem Value).run P w = .ok (.bool (!(p && q))) w) := by
  simp only [Bool.and_eq_true] at hq
  obtain ⟨q1, q2⟩ := hq
  unfold nilTy at q2
  split at q2
  · rename_i e hu
    simp only [Bool.and_eq_true] at q2
    obtain ⟨rfl, rfl⟩ := q2
    rcases aNil_real ha hx with ⟨-, a1, k1, c1, rfl, h1⟩ | ⟨h, -⟩
    · rcases aNil_real hb hy with ⟨-, a2, k2, c2, rfl, h2⟩ | ⟨h, -⟩
      · have hor : a1 = none ∨ a2 = none := by
          rcases Bool.or_eq_true_iff.1 q1 with h | h
          · left; rw [h] at h1; simpa using h1
          · right; rw [h] at h2; simpa using h2
        have hr := run_equal_slice (P := P) hu (k := k1) (q := c1) (k' := k2) (q' := c2) hor w
        rw [h1, h2] at hr
        constructor <;> (intro h; subst h; simp [eqGuard, binOp, hr])
      · cases h
    · cases h
  · rename_i e hu
    simp only [Bool.and_eq_true, Bool.not_eq_true'] at q2
    obtain ⟨rfl, rfl⟩ := q2
    rcases aNil_real ha hx with ⟨h, -⟩ | ⟨-, a1, rfl, h1⟩
    · cases h
    · rcases aNil_real hb hy with ⟨h, -⟩ | ⟨-, a2, rfl, h2⟩
      · cases h
      · have hor : a1 = none ∨ a2 = none := by
          rcases Bool.or_eq_true_iff.1 q1 with h | h
          · left; rw [h] at h1; simpa using h1
          · right; rw [h] at h2; simpa using h2
        have hr := run_equal_ptr (P := P) hu hor w
        rw [h1, h2] at hr
        constructor <;> (intro h; subst h; simp [eqGuard, binOp, hr])
  · cases q2
theorem ok_bin (g : Good B c) {op : BinOp} {t : TypeId} {x y : Operand} {z : Option (Nat × Nat)} (hop : ∀ w : World, (execOp ev o).run P w = ((do eqGuard op t x y (ev x) (ev y); binOp op t (ev x) (ev y) : Sem Value).run P w).andThen fun v w' => .ok (.value v) w')
    (hρ : ∀ x ∈ o.op.operands.toList, ∀ y, ρ x = some y → VRel c y (ev x)) (mx : x ∈ o.op.operands.toList) (my : y ∈ o.op.operands.toList) {v : AV} {d : Wr} (h : aBin P ρ o op t x y = some (v, d)) : OpOk P B n c (execOp ev o) v d := by
  unfold aBin at h
  split at h
  · rename_i a b h1 h2
    split at h
    · rename_i u hu
      simp only [Option.some.injEq, Prod.mk.injEq] at h
      obtain ⟨rfl, rfl⟩ := h
      have ex : ev x = a := by have := hρ x mx _ h1; generalize ev x = q at this; cases this; rfl
      have ey : ev y = b := by have := hρ y my _ h2; generalize ev y = q at this; cases this; rfl
      obtain ⟨hr, hs⟩ := fastBin_run (P := P) hu t x y c.w
      refine .still g ?_ (.sc u hs)
      rw [hop, ex, ey, hr]; rfl
    · exact ok_plain g hρ h
  · rename_i a b hnot h1 h2
    have hx := hρ x mx _ h1
    have hy := hρ y my _ h2
    split at h
    · rename_i s p s' q n1 n2
      cases hq : ((p || q) && nilTy P t s s') with
      | false => simp only [hq, cond_false, reduceCtorEq] at h
      | true =>
        simp only [hq, cond_true, Option.some.injEq, Prod.mk.injEq] at h
        obtain ⟨rfl, rfl⟩ := h
        refine .still g ?_ (.sc _ rfl)
        rw [hop, (nil_run n1 n2 hq hx hy x y c.w).1 rfl]; rfl
    · rename_i s p s' q n1 n2
      cases hq : ((p || q) && nilTy P t s s') with
      | false => simp only [hq, cond_false, reduceCtorEq] at h
      | true =>
        simp only [hq, cond_true, Option.some.injEq, Prod.mk.injEq] at h
        obtain ⟨rfl, rfl⟩ := h
        refine .still g ?_ (.sc _ rfl)
        rw [hop, (nil_run n1 n2 hq hx hy x y c.w).2 rfl]; rfl
    · exact ok_plain g hρ h
  · cases h
end
end Go.Proofs.Ytfhcciepaangiaa
