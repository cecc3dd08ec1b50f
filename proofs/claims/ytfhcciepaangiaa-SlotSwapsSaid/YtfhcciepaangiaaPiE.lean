/- Structs compared: what == says of two of them. -/
import Derived.Test.YtfhcciepaangiaaPi29
import Derived.Laws.StructEq
set_option linter.unusedVariables false
set_option linter.unusedSimpArgs false
namespace Go.Proofs.Ytfhcciepaangiaa
open Go.RowKit
section
variable {P : Program}
theorem pureRun_bind' {α β : Type} (f : α → Sem β) : ∀ (s : Sem α), pureRun P (s.bind f) = (pureRun P s).bind (fun a => pureRun P (f a))
  | .pure a => rfl
  | .program k => pureRun_bind' f (k P)
  | .load .. => rfl
  | .store .. => rfl
  | .new .. => rfl
  | .shape .. => rfl
  | .freeze .. => rfl
  | .frozen .. => rfl
  | .getObj .. => rfl
  | .setObj .. => rfl
  | .choose .. => rfl
  | .sys .. => rfl
  | .mark .. => rfl
  | .halt .. => rfl
theorem pureRun_bind {α β : Type} (s : Sem α) (f : α → Sem β) : pureRun P (s >>= f) = (pureRun P s).bind (fun a => pureRun P (f a)) := pureRun_bind' f s
theorem pureRun_pure {α : Type} (a : α) : pureRun P (pure a : Sem α) = some a := rfl
theorem pureRun_ite {α : Type} (c : Prop) [Decidable c] (a b : Sem α) : pureRun P (if c then a else b) = if c then pureRun P a else pureRun P b := by split <;> rfl
theorem pureRun_program : pureRun P program = some P := rfl
theorem pureRun_underlying {t : TypeId} {d : TypeDesc} (h : P.underlying t = some d) : pureRun P (underlying t) = some d := by
  simp [underlying, pureRun_bind, pureRun_program, h, pureRun_pure]
theorem pure_equalIn_struct (d : Nat) (t : TypeId) (xs ys : Array Value) (ht : P.underlying t = some (.struct (P.fieldsOf t))) (hp : P.stoodInHeld t = false) :
    pureRun P (Op.equalIn (d + 1) t (.agg xs) (.agg ys)) = pureRun P (Op.eqFields d xs ys (P.fieldsOf t).toList) := by
  simp only [Op.equalIn, pureRun_bind, pureRun_underlying ht, Option.bind_some, pureRun_program, hp, Bool.false_eq_true, if_false]
  rw [← Array.forIn_toList]
  generalize (P.fieldsOf t).toList = fs
  clear ht
  induction fs with
  | nil => simp [Op.eqFields, pureRun_pure]
  | cons f fs ih =>
    simp only [List.forIn_cons, Op.eqFields, pureRun_bind, pureRun_ite]
    split
    · cases h1 : pureRun P (part f.type xs f.offset) with
      | none => simp
      | some a =>
        cases h2 : pureRun P (part f.type ys f.offset) with
        | none => simp
        | some b =>
          simp only [Option.bind_some]
          cases h3 : pureRun P (Op.equalIn d f.type a b) with
          | none => simp
          | some r =>
            cases r
            · simp [pureRun_pure]
            · simp only [Option.bind_some, Bool.not_true, Bool.false_eq_true, if_false, pureRun_pure]
              exact ih
    · simp only [pureRun_pure, Option.bind_some]
      exact ih
theorem eqF_nil {d : Nat} {xs ys : Array Value} : pureRun P (Op.eqFields d xs ys []) = some true := rfl
theorem eqF_cons {d : Nat} {xs ys : Array Value} {f : Field} {fs : List Field} {a b : Value} {r q : Bool} (hn : decide (f.name ≠ "_") = true) (h1 : pureRun P (part f.type xs f.offset) = some a) (h2 : pureRun P (part f.type ys f.offset) = some b) (h3 : pureRun P (Op.equalIn d f.type a b) = some r) (h4 : pureRun P (Op.eqFields d xs ys fs) = some q) : pureRun P (Op.eqFields d xs ys (f :: fs)) = some (r && q) := by
  unfold Op.eqFields
  rw [if_pos (of_decide_eq_true hn)]
  simp only [pureRun_bind, h1, h2, h3, Option.bind_some]
  cases r
  · rfl
  · simpa using h4
theorem eq_int {d : Nat} {t : TypeId} {k k' : IntKind} {a b : Int} (h : P.underlying t = some (.int k')) : pureRun P (Op.equalIn (d + 1) t (.int k a) (.int k b)) = some (a == b) := by
  simp [Op.equalIn, pureRun_bind, pureRun_underlying h, pureRun_pure]
theorem eq_bool {d : Nat} {t : TypeId} {a b : Bool} (h : P.underlying t = some .bool) : pureRun P (Op.equalIn (d + 1) t (.bool a) (.bool b)) = some (a == b) := by
  simp [Op.equalIn, pureRun_bind, pureRun_underlying h, pureRun_pure]
theorem eq_str {d : Nat} {t : TypeId} {a b : ByteArray} (h : P.underlying t = some .string) : pureRun P (Op.equalIn (d + 1) t (.string a) (.string b)) = some (a == b) := by
  simp [Op.equalIn, pureRun_bind, pureRun_underlying h, pureRun_pure]
theorem eq_struct {d : Nat} {t : TypeId} {xs ys : Array Value} {fs : Array Field} {r : Bool} (ht : P.underlying t = some (.struct fs)) (hp : P.stoodInHeld t = false) (h : pureRun P (Op.eqFields d xs ys fs.toList) = some r) : pureRun P (Op.equalIn (d + 1) t (.agg xs) (.agg ys)) = some r := by
  have hf : P.fieldsOf t = fs := by simp [Program.fieldsOf, ht]
  rw [pure_equalIn_struct d t xs ys (by rw [hf]; exact ht) hp, hf, h]
theorem opA_eqG {op : BinOp} {t ty n : Nat} {look : Nat → Option ABlk} {cs ds : List AV} {xs ys : List Value} {v : Bool} (hop : op = .eql ∨ op = .neq) (hx : toVal (.agg cs) = some (.agg xs.toArray)) (hy : toVal (.agg ds) = some (.agg ys.toArray)) (h : pureRun P (execOp (fun x => (opVal (rhoV [.agg cs, .agg ds]) x).getD undef) ⟨none, .binOp op t (.tmp 0) (.tmp 1) t, ty, "", #[], none⟩) = some (.value (.bool v))) : opA P (.binOp op t (.tmp 0) (.tmp 1) t) ty [.agg cs, .agg ds] look n = some (boolA v, []) := by
  have h0 : opVal (rhoV [.agg cs, .agg ds]) (.tmp 0) = some (.agg xs.toArray) := hx
  have h1 : opVal (rhoV [.agg cs, .agg ds]) (.tmp 1) = some (.agg ys.toArray) := hy
  have key : aPlain P (rhoV [.agg cs, .agg ds]) ⟨none, .binOp op t (.tmp 0) (.tmp 1) t, ty, "", #[], none⟩ = some (boolA v, []) := by
    unfold aPlain
    have hc : (notSel (.binOp op t (.tmp 0) (.tmp 1) t) && allVal (rhoV [.agg cs, .agg ds]) (Op.operands (.binOp op t (.tmp 0) (.tmp 1) t)).toList) = true := by
      simp [notSel, allVal, Op.operands, h0, h1]
    rw [hc]
    simp only [cond_true, h]
    rfl
  rcases hop with rfl | rfl
  · exact key
  · exact key
theorem opA_eqlG {t ty n : Nat} {look : Nat → Option ABlk} {cs ds : List AV} {xs ys : List Value} {r v : Bool} (hg : P.eqGuardType P.depth t = false) (hx : toVal (.agg cs) = some (.agg xs.toArray)) (hy : toVal (.agg ds) = some (.agg ys.toArray)) (h : pureRun P (Op.equalIn 10000 t (.agg xs.toArray) (.agg ys.toArray)) = some r) (hv : r = v) : opA P (.binOp .eql t (.tmp 0) (.tmp 1) t) ty [.agg cs, .agg ds] look n = some (boolA v, []) := by
  subst hv
  refine opA_eqG (.inl rfl) hx hy ?_
  have h0 : opVal (rhoV [.agg cs, .agg ds]) (.tmp 0) = some (.agg xs.toArray) := hx
  have h1 : opVal (rhoV [.agg cs, .agg ds]) (.tmp 1) = some (.agg ys.toArray) := hy
  have hq : ∀ (op : BinOp) (x y : Operand) (a b : Array Value), (op = .eql ∨ op = .neq) → pureRun P (eqGuard op t x y (.agg a) (.agg b)) = some () := by
    rintro op x y a b (rfl | rfl) <;> simp [eqGuard, pureRun_bind, pureRun_program, hg, pureRun_pure]
  simp  only [hq _ _ _ _ _ (.inl rfl), hq _ _ _ _ _ (.inr rfl), execOp, pureRun_bind, h0, h1, Option.getD_some, binOp, Op.equal, Op.maxDepth, h, Option.bind_some, pureRun_pure]
theorem opA_neqG {t ty n : Nat} {look : Nat → Option ABlk} {cs ds : List AV} {xs ys : List Value} {r v : Bool} (hg : P.eqGuardType P.depth t = false) (hx : toVal (.agg cs) = some (.agg xs.toArray)) (hy : toVal (.agg ds) = some (.agg ys.toArray)) (h : pureRun P (Op.equalIn 10000 t (.agg xs.toArray) (.agg ys.toArray)) = some r) (hv : (!r) = v) : opA P (.binOp .neq t (.tmp 0) (.tmp 1) t) ty [.agg cs, .agg ds] look n = some (boolA v, []) := by
  subst hv
  refine opA_eqG (.inr rfl) hx hy ?_
  have h0 : opVal (rhoV [.agg cs, .agg ds]) (.tmp 0) = some (.agg xs.toArray) := hx
  have h1 : opVal (rhoV [.agg cs, .agg ds]) (.tmp 1) = some (.agg ys.toArray) := hy
  have hq : ∀ (op : BinOp) (x y : Operand) (a b : Array Value), (op = .eql ∨ op = .neq) → pureRun P (eqGuard op t x y (.agg a) (.agg b)) = some () := by
    rintro op x y a b (rfl | rfl) <;> simp [eqGuard, pureRun_bind, pureRun_program, hg, pureRun_pure]
  simp  only [hq _ _ _ _ _ (.inl rfl), hq _ _ _ _ _ (.inr rfl), execOp, pureRun_bind, h0, h1, Option.getD_some, binOp, Op.equal, Op.maxDepth, h, Option.bind_some, pureRun_pure]
theorem toList_inj {a b : ByteArray} (h : a.toList = b.toList) : a = b := by
  rw [ByteArray.toList_eq, ByteArray.toList_eq] at h
  obtain ⟨⟨x⟩⟩ := a
  obtain ⟨⟨y⟩⟩ := b
  simpa using h
theorem beqB (a b : ByteArray) : (a == b) = decide (a = b) := by
  rw [beq_toListBytes]
  by_cases h : a = b
  · subst h; simp
  · rw [decide_eq_false h]
    exact beq_eq_false_iff_ne.2 fun e => h (toList_inj e)
theorem beqL (a b : ByteArray) : (a.toList == b.toList) = decide (a = b) := by rw [← beq_toListBytes, beqB]
theorem beqI (a b : Int) : (a == b) = decide (a = b) := by
  by_cases h : a = b
  · subst h; simp
  · rw [decide_eq_false h]; exact beq_eq_false_iff_ne.2 h
end
end Go.Proofs.Ytfhcciepaangiaa
