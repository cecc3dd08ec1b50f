/- A part. -/
import Derived.Test.YtbfabclpcamlnaaGreatDoorMath2
import Derived.Test.YtbfabclpcamlnaaGreatDoorX1G
set_option linter.unusedVariables false
set_option linter.unusedSimpArgs false
namespace Go.Proofs.YtbfabclpcamlnaaGreatDoor
theorem Acr {α : Type} (P : α → Prop) {a b c d : α} (ha : P a) (hb : P b) (hc : P c) (hd : P d) {i : Int} (h0 : 0 ≤ i) (h1 : i ≤ 3) : ∃ x, Bt [a, b, c, d] i = some x ∧ P x := by
  rcases (by omega : i = 0 ∨ i = 1 ∨ i = 2 ∨ i = 3) with rfl | rfl | rfl | rfl
  · exact ⟨a, rfl, ha⟩
  · exact ⟨b, rfl, hb⟩
  · exact ⟨c, rfl, hc⟩
  · exact ⟨d, rfl, hd⟩
def rows (t : Ao) : List Dw := [⟨t.Cf, t.Ce, t.Ci, t.Cn⟩, ⟨t.Cd, t.Cl, t.Cr, t.Co⟩, ⟨t.Cm, t.Ck, t.Ch, t.Cg⟩, ⟨t.Cb, t.Cj, t.Cq, t.Cp⟩]
def Ij (r : Dw) : List Int := [r.c0, r.c1, r.c2, r.c3]
def cell (t : Ao) (a b : Int) : Int := ((Bt (rows t) a).bind fun r => Bt (Ij r) b).getD 0
def G1 (t : Ao) : Prop := ∀ r ∈ rows t, ∀ x ∈ Ij r, 30 ≤ x ∧ x ≤ 600
theorem Uk (t : Ao) (h : G1 t) {a : Int} (h0 : 0 ≤ a) (h1 : a ≤ 3) : ∃ r, Bt (rows t) a = some r ∧ r ∈ rows t := Acr (fun r => r ∈ rows t) (by simp [rows]) (by simp [rows]) (by simp [rows]) (by simp [rows]) h0 h1
theorem Qx (r : Dw) {b : Int} (h0 : 0 ≤ b) (h1 : b ≤ 3) : ∃ x, Bt (Ij r) b = some x ∧ x ∈ Ij r := Acr (fun x => x ∈ Ij r) (by simp [Ij]) (by simp [Ij]) (by simp [Ij]) (by simp [Ij]) h0 h1
theorem K7 (t : Ao) (h : G1 t) {a b : Int} (a0 : 0 ≤ a) (a1 : a ≤ 3) (b0 : 0 ≤ b) (b1 : b ≤ 3) : ∃ r, Bt (rows t) a = some r ∧ Bt (Ij r) b = some (cell t a b) ∧ 30 ≤ cell t a b ∧ cell t a b ≤ 600 := by
  obtain ⟨r, h1, h2⟩ := Uk t h a0 a1
  obtain ⟨x, h3, h4⟩ := Qx r b0 b1
  have : cell t a b = x := by unfold cell; rw [h1]; simp only [Option.bind_some, h3, Option.getD_some]
  rw [this]
  exact ⟨r, h1, h3, h r h2 x h4⟩
theorem cS (n : Nat) (hn : 100 < n) (t : Ao) : ∃ z, Zi n t = some z ∧ (z = 0 → G1 t) := by
  unfold Zi
  refine Et (fun y => ∃ i : Nat, i ≤ 4 ∧ y = (i : Int) ∧ ∀ (j : Nat) (r : Dw), j < i → (rows t)[j]? = some r → ∀ x ∈ Ij r, 30 ≤ x ∧ x ≤ 600) _ (fun y => 4 - y.toNat) ?_ n _ ⟨0, by omega, rfl, fun j r h => absurd h (Nat.not_lt_zero _)⟩ (by simp; omega)
  rintro _ ⟨i, hi, rfl, hP⟩
  rcases Nat.lt_or_ge i 4 with hlt | hge
  · have hr : (rows t)[i]? = some ((rows t)[i]'(by simp [rows]; omega)) := List.getElem?_eq_getElem (by simp [rows]; omega)
    generalize (rows t)[i]'(by simp [rows]; omega) = r at hr
    have hin : ∃ q, Ba (fun y : Int => Fm n (0) t.Cf t.Ce t.Ci t.Cn t.Cd t.Cl t.Cr t.Co t.Cm t.Ck t.Ch t.Cg t.Cb t.Cj t.Cq t.Cp (i : Int) r.c0 r.c1 r.c2 r.c3 y) n 0 = some q ∧ ((∃ z, q = .inr z ∧ z ≠ 0) ∨ q = .inl ((i + 1 : Nat) : Int) ∧ ∀ (j : Nat) (x : Int), (Ij r)[j]? = some x → 30 ≤ x ∧ x ≤ 600) :=
      Fj (S := fun y : Int => Fm n (0) t.Cf t.Ce t.Ci t.Cn t.Cd t.Cl t.Cr t.Co t.Cm t.Ck t.Ch t.Cg t.Cb t.Cj t.Cq t.Cp (i : Int) r.c0 r.c1 r.c2 r.c3 y) (Ij r) (fun j x => 30 ≤ x ∧ x ≤ 600) (fun q => ∃ z, q = .inr z ∧ z ≠ 0) (.inl ((i + 1 : Nat) : Int)) (fun j x hx => by
        have hj : j < 4 := Dn hx
        show Fm n (0) t.Cf t.Ce t.Ci t.Cn t.Cd t.Cl t.Cr t.Co t.Cm t.Ck t.Ch t.Cg t.Cb t.Cj t.Cq t.Cp (i : Int) r.c0 r.c1 r.c2 r.c3 (j : Int) = _ ∧ _ ∨ ∃ q, Fm n (0) t.Cf t.Ce t.Ci t.Cn t.Cd t.Cl t.Cr t.Co t.Cm t.Ck t.Ch t.Cg t.Cb t.Cj t.Cq t.Cp (i : Int) r.c0 r.c1 r.c2 r.c3 (j : Int) = _ ∧ _
        unfold Fm
        have hx' : Bt [r.c0, r.c1, r.c2, r.c3] (j : Int) = some x := Cw hx
        rw [decide_eq_true (show (j : Int) < 4 by omega), hx', wS (by omega)]
        simp only [cond_true, Option.bind_some]
        by_cases h1 : x < 30
        · right; exact ⟨_, by rw [decide_eq_true h1]; rfl, 4, rfl, by decide⟩
        · by_cases h2 : x > 600
          · right; exact ⟨_, by rw [decide_eq_false h1, decide_eq_true h2]; rfl, 4, rfl, by decide⟩
          · left; exact ⟨by rw [decide_eq_false h1, decide_eq_false h2]; rfl, by omega⟩) (by
        show Fm n (0) t.Cf t.Ce t.Ci t.Cn t.Cd t.Cl t.Cr t.Co t.Cm t.Ck t.Ch t.Cg t.Cb t.Cj t.Cq t.Cp (i : Int) r.c0 r.c1 r.c2 r.c3 ((4 : Nat) : Int) = _
        unfold Fm
        rw [decide_eq_false (show ¬ ((4 : Nat) : Int) < 4 by omega), wS (i := i) (by omega)]
        rfl) n (by simp [Ij]; omega)
    obtain ⟨q, hq, hq2⟩ := hin
    have hS : Lx n (0) t.Cf t.Ce t.Ci t.Cn t.Cd t.Cl t.Cr t.Co t.Cm t.Ck t.Ch t.Cg t.Cb t.Cj t.Cq t.Cp (i : Int) = some q := by
      unfold Lx
      have hr' : Bt [(⟨t.Cf, t.Ce, t.Ci, t.Cn⟩ : Dw), ⟨t.Cd, t.Cl, t.Cr, t.Co⟩, ⟨t.Cm, t.Ck, t.Ch, t.Cg⟩, ⟨t.Cb, t.Cj, t.Cq, t.Cp⟩] (i : Int) = some r := Cw hr
      rw [decide_eq_true (show (i : Int) < 4 by omega), hr']
      simp only [cond_true, Option.bind_some]
      exact hq
    rcases hq2 with ⟨z, rfl, hz⟩ | ⟨rfl, hc⟩
    · exact .inr ⟨z, hS, fun h => absurd h hz⟩
    · refine .inl ⟨_, hS, ⟨i + 1, hlt, rfl, fun j r' hj hr' => ?_⟩, by simp; omega⟩
      rcases Nat.lt_or_ge j i with h | h
      · exact hP j r' h hr'
      · have : j = i := by omega
        subst this
        rw [hr] at hr'; cases hr'
        intro x hx
        obtain ⟨m, hm, rfl⟩ := List.getElem_of_mem hx
        exact hc m _ (List.getElem?_eq_getElem hm)
  · have : i = 4 := by omega
    subst this
    have hall : G1 t := fun r hr x hx => by
      obtain ⟨m, hm, rfl⟩ := List.getElem_of_mem hr
      exact hP m _ (by simpa [rows] using hm) (List.getElem?_eq_getElem hm) x hx
    have h3 : ∃ q, Ba (fun y : Int => Hd n (0) t.Cf t.Ce t.Ci t.Cn t.Cd t.Cl t.Cr t.Co t.Cm t.Ck t.Ch t.Cg t.Cb t.Cj t.Cq t.Cp y) n 0 = some q := by
      obtain ⟨q, h, -⟩ := Et (S := fun y : Int => Hd n (0) t.Cf t.Ce t.Ci t.Cn t.Cd t.Cl t.Cr t.Co t.Cm t.Ck t.Ch t.Cg t.Cb t.Cj t.Cq t.Cp y) (fun y => ∃ i : Nat, i ≤ 4 ∧ y = (i : Int)) (fun _ => True) (fun y => 4 - y.toNat) (by
        rintro _ ⟨i, hi, rfl⟩
        rcases Nat.lt_or_ge i 4 with hi4 | hi4
        · have h2 : ∃ q, Ba (fun y : Int => E4 n (0) (i : Int) t.Cf t.Ce t.Ci t.Cn t.Cd t.Cl t.Cr t.Co t.Cm t.Ck t.Ch t.Cg t.Cb t.Cj t.Cq t.Cp y) n 0 = some q ∧ (q = .inl ((i + 1 : Nat) : Int) ∨ ∃ z, q = .inr z) := by
            refine Et (fun y => ∃ j : Nat, j ≤ 4 ∧ y = (j : Int)) _ (fun y => 4 - y.toNat) ?_ n _ ⟨0, by omega, rfl⟩ (by simp; omega)
            rintro _ ⟨j, hj, rfl⟩
            rcases Nat.lt_or_ge j 4 with hj4 | hj4
            · have h1 : ∃ q, Ba (fun y : Int => D3 n (0) (i : Int) (j : Int) t.Cf t.Ce t.Ci t.Cn t.Cd t.Cl t.Cr t.Co t.Cm t.Ck t.Ch t.Cg t.Cb t.Cj t.Cq t.Cp y) n 0 = some q ∧ (q = .inl ((j + 1 : Nat) : Int) ∨ ∃ z, q = .inr (.inr z)) := by
                refine Et (fun y => ∃ m : Nat, m ≤ 4 ∧ y = (m : Int)) _ (fun y => 4 - y.toNat) ?_ n _ ⟨0, by omega, rfl⟩ (by simp; omega)
                rintro _ ⟨m, hm, rfl⟩
                rcases Nat.lt_or_ge m 4 with hm4 | hm4
                · obtain ⟨ri, e1, -⟩ := Uk t hall (a := (i : Int)) (by omega) (by omega)
                  obtain ⟨rj, e2, -⟩ := Uk t hall (a := (j : Int)) (by omega) (by omega)
                  obtain ⟨x1, e3, -⟩ := Qx ri (b := (m : Int)) (by omega) (by omega)
                  obtain ⟨x2, e4, -⟩ := Qx ri (b := (j : Int)) (by omega) (by omega)
                  obtain ⟨x3, e5, -⟩ := Qx rj (b := (m : Int)) (by omega) (by omega)
                  unfold rows at e1 e2
                  unfold Ij at e3 e4 e5
                  have key : ∃ u, D3 n (0) (i : Int) (j : Int) t.Cf t.Ce t.Ci t.Cn t.Cd t.Cl t.Cr t.Co t.Cm t.Ck t.Ch t.Cg t.Cb t.Cj t.Cq t.Cp (m : Int) = some u ∧ (u = .inl ((m + 1 : Nat) : Int) ∨ ∃ z, u = .inr (.inr (.inr z))) := by
                    unfold D3
                    rw [decide_eq_true (show (m : Int) < 4 by omega), wS (by omega)]
                    simp only [cond_true, e1, e2, e3, e4, e5, Option.bind_some]
                    cases decide (x1 > IntKind.i64.wrap (x2 + x3))
                    · exact ⟨_, rfl, .inl rfl⟩
                    · exact ⟨_, rfl, .inr ⟨_, rfl⟩⟩
                  obtain ⟨u, hu, rfl | ⟨z, rfl⟩⟩ := key
                  · exact .inl ⟨_, hu, ⟨m + 1, hm4, rfl⟩, by simp; omega⟩
                  · exact .inr ⟨_, hu, .inr ⟨z, rfl⟩⟩
                · have : m = 4 := by omega
                  subst this
                  refine .inr ⟨.inl ((j + 1 : Nat) : Int), ?_, .inl rfl⟩
                  unfold D3
                  rw [decide_eq_false (show ¬ ((4 : Nat) : Int) < 4 by omega), wS (i := j) (by omega)]; rfl
              obtain ⟨q, hq, hq2⟩ := h1
              have hS : E4 n (0) (i : Int) t.Cf t.Ce t.Ci t.Cn t.Cd t.Cl t.Cr t.Co t.Cm t.Ck t.Ch t.Cg t.Cb t.Cj t.Cq t.Cp (j : Int) = some q := by
                unfold E4
                rw [decide_eq_true (show (j : Int) < 4 by omega), cond_true]
                exact hq
              rcases hq2 with rfl | ⟨z, rfl⟩
              · exact .inl ⟨_, hS, ⟨j + 1, hj4, rfl⟩, by simp; omega⟩
              · exact .inr ⟨_, hS, .inr ⟨z, rfl⟩⟩
            · have : j = 4 := by omega
              subst this
              refine .inr ⟨.inl ((i + 1 : Nat) : Int), ?_, .inl rfl⟩
              unfold E4
              rw [decide_eq_false (show ¬ ((4 : Nat) : Int) < 4 by omega), wS (i := i) (by omega)]; rfl
          obtain ⟨q, hq, hq2⟩ := h2
          have hS : Hd n (0) t.Cf t.Ce t.Ci t.Cn t.Cd t.Cl t.Cr t.Co t.Cm t.Ck t.Ch t.Cg t.Cb t.Cj t.Cq t.Cp (i : Int) = some q := by
            unfold Hd
            rw [decide_eq_true (show (i : Int) < 4 by omega), cond_true]
            exact hq
          rcases hq2 with rfl | ⟨z, rfl⟩
          · exact .inl ⟨_, hS, ⟨i + 1, hi4, rfl⟩, by simp; omega⟩
          · exact .inr ⟨_, hS, trivial⟩
        · have : i = 4 := by omega
          subst this
          refine .inr ⟨0, ?_, trivial⟩
          unfold Hd
          rw [decide_eq_false (show ¬ ((4 : Nat) : Int) < 4 by omega)]; rfl) n 0 ⟨0, by omega, rfl⟩ (by simp; omega)
      exact ⟨q, h⟩
    obtain ⟨q, hq⟩ := h3
    refine .inr ⟨q, ?_, fun _ => hall⟩
    unfold Lx
    rw [decide_eq_false (show ¬ ((4 : Nat) : Int) < 4 by omega), cond_false, hq]; rfl
end Go.Proofs.YtbfabclpcamlnaaGreatDoor
