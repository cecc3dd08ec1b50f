/- The evaluator of functions is sound; calls that leave the memory as it is. -/
import Derived.Test.YtfhcciepaangiaaPi17
set_option linter.unusedVariables false
set_option linter.unusedSimpArgs false
namespace Go.Proofs.Ytfhcciepaangiaa
open Go.RowKit

section
variable {P : Program} {K : Cfg}
theorem evFn_ok (hm : P.follows .mixedOrders = true) : ∀ k, CallOk P K.gl (evFn P K k)
  | 0, f, args, m, nx, v, m', nx', h => by simp [evFn] at h
  | k + 1, f, args, m, nx, v, m', nx', h => by
    have ih := evFn_ok hm k
    unfold evFn at h
    split at h
    · rename_i fn hf
      split at h
      · rename_i code hb
        cases hq : (fn.name == "runtime.NumGoroutine" || Nat.blt fn.ntmps args.length) with
        | true => rw [hq] at h; simp at h
        | false =>
          rw [hq] at h
          simp only [cond_false] at h
          simp only [Bool.or_eq_false_iff] at hq
          have hlen : args.length ≤ fn.ntmps := by
            rcases Nat.lt_or_ge fn.ntmps args.length with h' | h'
            · have : Nat.blt fn.ntmps args.length = true := Nat.ble_eq_true_of_le h'
              rw [this] at hq; exact absurd hq.2 (by simp)
            · exact h'
          refine ⟨⟨fn, code, hf, hb, hq.1⟩, fun B c vals g gl hM ha hr => ?_⟩
          have key : ∀ x s, (x = AExit.normal ∨ x = AExit.ret) → evCode K (evRegion P K (evFn P K k) fn.ntmps) k code ⟨initEnv args 0, m, nx⟩ = some (x, s) → (aResults P fn s).map (·, s.m, s.nx) = some (v, m', nx') → Calls P f vals.toArray c.w (CallPost B c v m' nx') := by
            intro x s hx hc hres
            obtain ⟨v0, h1, h2⟩ := Option.map_eq_some_iff.1 hres
            simp only [Prod.mk.injEq] at h2
            obtain ⟨rfl, rfl, rfl⟩ := h2
            have tri : Tri P K fn.ntmps nx code ⟨initEnv args 0, m, nx⟩ (fun y t => (y = .normal ∨ y = .ret) ∧ ∃ v, aResults P fn t = some v ∧ (v = v0 ∧ t.m = s.m ∧ t.nx = s.nx)) :=
              (evCode_ok hm ih code _ x s hc).mono fun y t ⟨e1, e2⟩ => by subst e1; subst e2; exact ⟨hx, v0, h1, rfl, rfl, rfl⟩
            refine (calls_of_tri (R := fun v m' nx' => v = v0 ∧ m' = s.m ∧ nx' = s.nx) hf hb hlen tri g gl hM ha hr).mono ?_
            rintro e w' ⟨v, m', nx', ⟨rfl, rfl, rfl⟩, hp⟩
            exact hp
          split at h
          · rename_i s hc; exact key .normal s (.inl rfl) hc h
          · rename_i s hc; exact key .ret s (.inr rfl) hc h
          · cases h
      · cases h
    · cases h

/- a call that leaves the memory of the run alone -/
def PureAt (P : Program) (gl : Nat → Option (List AV)) (look : Nat → Option ABlk) (f : FuncId) (args : List AV) (v : AV) : Prop :=
  Plainly P f ∧ ∀ (B : Nat) (c : Cx) (vals : List Value), Good B c → GlobOk gl c → (∀ id b, look id = some b → c.M id = some b) → Rels c args vals → Calls P f vals.toArray c.w (PurePost B c v)
/- the same, where one block may be left to the caller -/
def PureD (P : Program) (gl : Nat → Option (List AV)) (look : Nat → Option ABlk) (n : Nat) (f : FuncId) (args : List AV) (v : AV) (d : Wr) : Prop :=
  Plainly P f ∧ ∀ (B : Nat) (c : Cx) (vals : List Value), Good B c → GlobOk gl c → ¬ c.al n → (∀ id b, look id = some b → c.M id = some b) → Rels c args vals → Calls P f vals.toArray c.w (PurePostD B c n v d)
theorem PureAt.toD {gl : Nat → Option (List AV)} {look : Nat → Option ABlk} {n : Nat} {f : FuncId} {args : List AV} {v : AV} (h : PureAt P gl look f args v) : PureD P gl look n f args v [] := ⟨h.1, fun B c vals g hgl hn hl hr => (h.2 B c vals g hgl hl hr).mono fun _ _ h => h.toD⟩
/- of plain values that need no memory: what a function answers -/
def Says (P : Program) (gl : Nat → Option (List AV)) (f : FuncId) (args : List AV) (v : AV) : Prop := cleans args = true ∧ clean v = true ∧ PureAt P gl (fun _ => none) f args v
theorem says_of_ev (hm : P.follows .mixedOrders = true) {k : Nat} {f : FuncId} {args : List AV} {v v' : AV} {m : List (Nat × Option ABlk)} {nx : Nat} (hc : cleans args = true) (h : evFn P K k f args [] 0 = some (v, m, nx)) (hv : freeze (mget m) 6 v = some v') (hcl : clean v' = true) : Says P K.gl f args v' := by
  have hpc : pureCall (evFn P K k) (fun _ => none) f args = some (v', []) := by
    unfold pureCall
    simp only [hc, cond_true, h, hv, hcl]
  refine ⟨hc, hcl, ⟨((evFn_ok (K := K) hm k) f args [] 0 v m nx h).1, fun B c vals g gl _ hr => ?_⟩⟩
  exact (pureCall_ok (evFn_ok (K := K) hm k) g gl (look := fun _ => none) (fun _ _ h => by cases h) hr hpc).2.2
/- a fact: an answer that the evaluator gives -/
def evalsTo (P : Program) (K : Cfg) (k : Nat) (f : FuncId) : Option Bool :=
  match evFn P K k f [] [] 0 with
  | some (.sc (.bool b), _, _) => some b
  | _ => none
theorem says_of_evals (hm : P.follows .mixedOrders = true) {k : Nat} {f : FuncId} {b : Bool} (h : evalsTo P K k f = some b) : Says P K.gl f [] (.sc (.bool b)) := by
  unfold evalsTo at h
  split at h
  · rename_i b' m nx he
    simp only [Option.some.injEq] at h
    subst h
    exact says_of_ev (K := K) hm rfl he rfl rfl
  · cases h
end
end Go.Proofs.Ytfhcciepaangiaa
