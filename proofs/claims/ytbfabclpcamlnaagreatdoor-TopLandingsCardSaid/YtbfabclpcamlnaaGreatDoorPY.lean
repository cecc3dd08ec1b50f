/- A part. -/
import Derived.Test.YtbfabclpcamlnaaGreatDoorPD
set_option linter.unusedVariables false
set_option linter.unusedSimpArgs false
namespace Go.Proofs.YtbfabclpcamlnaaGreatDoor
open Go.RowKit
def Pw (P : Program) (K : H0) (sp : Eh) : Nat → Eh
  | 0, _, _, _, _ => none
  | k + 1, f, args, m, nx => match sp f args m nx with
    | some r => some r
    | none => match P.funcs[f]? with
      | some fn => match fn.body with
        | some c => bif fn.name == "runtime.NumGoroutine" || Nat.blt fn.ntmps args.length then none else
            match D9 K (Gz P K (Pw P K sp k) fn.ntmps) k c ⟨El args 0, m, nx⟩ with
            | some (.normal, s) => (Ek P fn s).map (·, s.m, s.nx)
            | some (.ret, s) => (Ek P fn s).map (·, s.m, s.nx)
            | _ => none
        | none => none
      | none => none
section
variable {P : Program} {K : H0} {sp : Eh}
theorem Kl (hm : P.follows .mixedOrders = true) (hsp : Ey P K.gl sp) : ∀ k, Ey P K.gl (Pw P K sp k)
  | 0, f, args, m, nx, v, m', nx', h => by simp [Pw] at h
  | k + 1, f, args, m, nx, v, m', nx', h => by
    have ih := Kl hm hsp k
    unfold Pw at h
    split at h
    · rename_i r hs
      simp only [Option.some.injEq] at h
      subst h
      exact hsp _ _ _ _ _ _ _ hs
    split at h
    · rename_i fn hf
      split at h
      · rename_i code hb
        cases hq : (fn.name == "runtime.NumGoroutine" || Nat.blt fn.ntmps args.length) with
        | true => rw [hq] at h; simp at h
        | false =>
          rw [hq] at h
          simp only [cond_false] at h
          simp only [Bool.or_eq_false_iff] at hq
          have hlen : args.length ≤ fn.ntmps := by
            rcases Nat.lt_or_ge fn.ntmps args.length with h' | h'
            · have : Nat.blt fn.ntmps args.length = true := Nat.ble_eq_true_of_le h'
              rw [this] at hq; exact absurd hq.2 (by simp)
            · exact h'
          refine ⟨⟨fn, code, hf, hb, hq.1⟩, fun B c vals g gl hM ha hr => ?_⟩
          have key : ∀ x s, (x = A9.normal ∨ x = A9.ret) → D9 K (Gz P K (Pw P K sp k) fn.ntmps) k code ⟨El args 0, m, nx⟩ = some (x, s) → (Ek P fn s).map (·, s.m, s.nx) = some (v, m', nx') → Calls P f vals.toArray c.w (Fi B c v m' nx') := by
            intro x s hx hc hres
            obtain ⟨v0, h1, h2⟩ := Option.map_eq_some_iff.1 hres
            simp only [Prod.mk.injEq] at h2
            obtain ⟨rfl, rfl, rfl⟩ := h2
            have tri : Ca P K fn.ntmps nx code ⟨El args 0, m, nx⟩ (fun y t => (y = .normal ∨ y = .ret) ∧ ∃ v, Ek P fn t = some v ∧ (v = v0 ∧ t.m = s.m ∧ t.nx = s.nx)) :=
              (Fa hm ih code _ x s hc).mono fun y t ⟨e1, e2⟩ => by subst e1; subst e2; exact ⟨hx, v0, h1, rfl, rfl, rfl⟩
            refine (Je (R := fun v m' nx' => v = v0 ∧ m' = s.m ∧ nx' = s.nx) hf hb hlen tri g gl hM ha hr).mono ?_
            rintro e w' ⟨v, m', nx', ⟨rfl, rfl, rfl⟩, hp⟩
            exact hp
          split at h
          · rename_i s hc; exact key .normal s (.inl rfl) hc h
          · rename_i s hc; exact key .ret s (.inr rfl) hc h
          · cases h
      · cases h
    · cases h
def Rn (P : Program) (K : H0) (sp : Eh) (k : Nat) (f : FuncId) : Option Bool :=
  match Pw P K sp k f [] [] 0 with
  | some (.sc (.bool b), _, _) => some b
  | _ => none
theorem Qn (hm : P.follows .mixedOrders = true) (hsp : Ey P K.gl sp) {k : Nat} {f : FuncId} {b : Bool} (h : Rn P K sp k f = some b) : C3 P K.gl f [] (.sc (.bool b)) := by
  unfold Rn at h
  split at h
  · rename_i b' m nx he
    simp only [Option.some.injEq] at h
    subst h
    have hpc : Ev (Pw P K sp k) (fun _ => none) f [] = some (.sc (.bool b'), []) := by
      unfold Ev
      simp only [As, cond_true, he, freeze, clean]
    refine ⟨rfl, rfl, ⟨((Kl (K := K) hm hsp k) f [] [] 0 _ m nx he).1, fun B c vals g gl _ hr => ?_⟩⟩
    exact (G0 (Kl (K := K) hm hsp k) g gl (look := fun _ => none) (fun _ _ h => by cases h) hr hpc).2.2
  · cases h
end
theorem Ew {P : Program} {K : H0} {f : FuncId} {args : List AV} {v : AV} {m : List (Nat × Option Bi)} {nx : Nat} (h : C3 P K.gl f args v) : D8 P f ∧ ∀ (B : Nat) (c : Cx) (vals : List Value), Good B c → B2 K.gl c → (∀ id, c.M id = Al m id) → (∀ id, c.al id → id < nx) → Bf c args vals → Calls P f vals.toArray c.w (Fi B c v m nx) := by
  obtain ⟨-, -, hpl, hp⟩ := h
  refine ⟨hpl, fun B c vals g gl hM ha hr => (hp B c vals g gl (fun _ _ h => by cases h) hr).mono ?_⟩
  rintro e w' ⟨v', c', k1, k2, k3, k4, k5, k6, k7⟩
  exact ⟨v', c', k1, k2, k3, k4, k5, fun id => (k6 id).trans (hM id), fun id hid => ha id ((k7 id).1 hid)⟩
end Go.Proofs.YtbfabclpcamlnaaGreatDoor
