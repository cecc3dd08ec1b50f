/- math.Atan2 of two whole numbers: finite, at most 2 to the 46. -/
import Derived.Test.YteaimbiojpjneaaGreatDoorAt1
import Derived.Test.YteaimbiojpjneaaGreatDoorFl5
set_option linter.unusedVariables false
set_option linter.unusedSimpArgs false
set_option maxHeartbeats 4000000
namespace Go.Proofs.YteaimbiojpjneaaGreatDoor

theorem satan_fin (n : Nat) {x : Nat} (h : FinW x 30) (hx : x < 9223372036854775808) : ∃ r, g134 n x = some r ∧ FinW r 45 := by
  have hi := h.lt_inf hx
  unfold g134
  cases c1 : fLe x 4604119971053405471 with
  | true =>
    have := le_pat hi c1
    obtain ⟨r, e, f⟩ := xatan_fin n (x := x) (FinW.of_le (k := 4) this (by decide) (by decide) (by decide) (by decide))
    rw [cond_true, e]
    exact ⟨r, rfl, f.up (by decide) (by decide)⟩
  | false =>
    rw [cond_false]
    cases c2 : fGt x 4612618744449965542 with
    | true =>
      have q := gt_pat (by decide) c2
      have l : LoW x 1 := ⟨by omega, by decide⟩
      obtain ⟨t, m, j, q1, q2, q3, -⟩ := read_low h l
      obtain ⟨u, eu, fu, -⟩ := quo_fin (const_at 4607182418800017408 0 (by decide +kernel)) q1 q2 q3 (by decide) (by decide)
      obtain ⟨r, e, f⟩ := xatan_fin n (x := u) (fu.up (by decide) (by decide))
      obtain ⟨v, ev, fv⟩ := sub_sharp (const_at 4609753056924675352 1 (by decide +kernel)) f (by decide)
      obtain ⟨w, ew, fw, -⟩ := add_sharp fv (const_at 4364452196894661639 0 (by decide +kernel)) (by decide)
      rw [cond_true, eu, Option.bind_some, e, Option.bind_some, ev, Option.bind_some, ew]
      exact ⟨w, rfl, fw.up (by decide) (by decide)⟩
    | false =>
      have q := not_gt_pat hi c2
      have h2 : FinW x 2 := FinW.of_le (k := 2) q (by decide) (by decide) (by decide) (by decide)
      obtain ⟨a, ea, fa⟩ := sub_sharp h2 (const_at 4607182418800017408 0 (by decide +kernel)) (by decide)
      obtain ⟨b, eb, fb, pb, lb⟩ := add_low h2 (const_at 4607182418800017408 0 (by decide +kernel)) (by decide) hx (by decide) (lo := 0) (by unfold LoW; decide +kernel) (by decide)
      obtain ⟨t, m, j, q1, q2, q3, -⟩ := read_low fb lb
      obtain ⟨u, eu, fu, -⟩ := quo_fin fa q1 q2 q3 (by decide) (by decide)
      obtain ⟨r, e, f⟩ := xatan_fin n (x := u) (fu.up (by decide) (by decide))
      obtain ⟨v, ev, fv, -⟩ := add_sharp (const_at 4605249457297304856 0 (by decide +kernel)) f (by decide)
      obtain ⟨w, ew, fw, -⟩ := add_sharp fv (const_at 4359948597267291143 0 (by decide +kernel)) (by decide)
      rw [cond_false, ea, Option.bind_some, eb, Option.bind_some, eu, Option.bind_some, e, Option.bind_some, ev, Option.bind_some, ew]
      exact ⟨w, rfl, fw.up (by decide) (by decide)⟩
theorem fneg_low {x : Nat} (h : x < 18446744073709551616) (hx : 9223372036854775808 ≤ x) : fNeg x < 9223372036854775808 := by
  have e : fNeg x = x ^^^ 2 ^ 63 := rfl
  have d : (x ^^^ 2 ^ 63) / 2 ^ 63 = x / 2 ^ 63 ^^^ 2 ^ 63 / 2 ^ 63 := Nat.xor_div_two_pow
  rw [show x / 2 ^ 63 = 1 by omega, show 2 ^ 63 / 2 ^ 63 = 1 by decide, Nat.xor_self] at d
  rw [e]
  omega
theorem atan_fin (n : Nat) {x : Nat} (h : FinW x 30) : ∃ r, g118 n x = some r ∧ FinW r 45 := by
  unfold g118 g128
  cases c1 : fEq x 0 with
  | true => exact ⟨x, rfl, h.up (by decide) (by decide)⟩
  | false =>
    rw [cond_false]
    cases c2 : fGt x 0 with
    | true =>
      obtain ⟨r, e, f⟩ := satan_fin n h (gt_zero h c2)
      rw [cond_true, e]
      exact ⟨r, rfl, f⟩
    | false =>
      have hx : 9223372036854775808 ≤ x := Nat.le_of_not_lt fun q => by
        rw [zero_or_gt h q c1] at c2; cases c2
      obtain ⟨r, e, f⟩ := satan_fin n (neg_fin h) (fneg_low h.1 hx)
      rw [cond_false, e]
      exact ⟨_, rfl, neg_fin f⟩
theorem sign_fin (n : Nat) {c a : Nat} {k : Int} (hc : FinW c k) (ha : a < 18446744073709551616) : ∃ r, g117 n c a = some r ∧ FinW r k := by
  unfold g117
  have e1 : bAndNot .u64 (c : Int) 9223372036854775808 = ((c &&& 9223372036854775807 : Nat) : Int) := bandn_nat (Y := 9223372036854775808) hc.1 (by decide)
  have e2 : bAnd .u64 (a : Int) 9223372036854775808 = ((a &&& 9223372036854775808 : Nat) : Int) := band_nat (Y := 9223372036854775808) ha (by decide)
  have l1 : c &&& 9223372036854775807 ≤ 9223372036854775807 := Nat.and_le_right
  have l2 : a &&& 9223372036854775808 ≤ 9223372036854775808 := Nat.and_le_right
  rw [e1, e2, bor_nat (by omega) (by omega), Int.toNat_natCast]
  refine ⟨_, rfl, Nat.or_lt_two_pow (n := 64) (by omega) (by omega), ?_, hc.2.2.1, hc.2.2.2⟩
  have m1 : ((c &&& 9223372036854775807) ||| (a &&& 9223372036854775808)) % 2 ^ 63 = c % 2 ^ 63 := by
    rw [Nat.or_mod_two_pow, Nat.and_mod_two_pow (a := a), show 9223372036854775808 % 2 ^ 63 = 0 from rfl, Nat.and_zero, Nat.or_zero, show (9223372036854775807 : Nat) = 2 ^ 63 - 1 from rfl, Nat.and_two_pow_sub_one_eq_mod, Nat.mod_mod]
  show ((((c &&& 9223372036854775807) ||| (a &&& 9223372036854775808)) % 2 ^ 63 : Nat) : Int) ≤ _
  rw [m1]
  exact hc.2.1
theorem inf_tot (n : Nat) (x : Nat) (z : Int) : ∃ b, g113 n x z = some b := by
  unfold g113 g123
  cases (z == 0) <;> cases decide (z < 0) <;> exact ⟨_, rfl⟩
theorem i2f_low {z : Int} (h : z ≠ 0) : LoW (i2f z) 0 := by
  unfold i2f
  show LoW (Ieee.Format.nearest Ieee.double (decide (z < 0)) z.natAbs 0) 0
  exact near_low _ (by omega) (by omega) (by decide) (by decide)
theorem atan2_fin (n : Nat) (X Y : Int) (hX : -2000000 ≤ X ∧ X ≤ 2000000) (hY : -2000000 ≤ Y ∧ Y ≤ 2000000) : ∃ r, g74 n (i2f X) (i2f Y) = some r ∧ FinW r 46 := by
  have hx := (i2f_fin (z := X) (e := 21) (by omega) (by decide)).1
  have hy := (i2f_fin (z := Y) (e := 21) (by omega) (by decide)).1
  have nan : ∀ {w : Nat} {k : Int}, FinW w k → g112 n w = some false := fun hw => by
    unfold g112 fNe
    rw [ord_self hw]; rfl
  unfold g74 g100
  rw [nan hx, Option.bind_some, cond_false, nan hy, Option.bind_some, cond_false]
  have fin : ∀ {m : Option Nat}, (∃ r, m = some r ∧ FinW r 46) → ∃ r, (m.bind fun x => some x) = some r ∧ FinW r 46 := fun ⟨r, e, f⟩ => ⟨r, by rw [e]; rfl, f⟩
  have cs : ∀ c k, k ≤ 46 → FinW c k → ∃ r, g117 n c (i2f X) = some r ∧ FinW r 46 := fun c k hk hc => by
    obtain ⟨r, e, f⟩ := sign_fin n hc hx.1
    exact ⟨r, e, f.up hk (by decide)⟩
  refine fin ?_
  have k0 : FinW 0 0 := ⟨by decide, by decide, by decide, by decide⟩
  have kpi : FinW 4614256656552045848 2 := const_at 4614256656552045848 2 (by decide +kernel)
  have kh : FinW 4609753056924675352 1 := const_at 4609753056924675352 1 (by decide +kernel)
  have kq : FinW 4605249457297304856 0 := const_at 4605249457297304856 0 (by decide +kernel)
  have k3 : FinW 4612488097114038738 2 := const_at 4612488097114038738 2 (by decide +kernel)
  cases fEq (i2f X) 0 with
  | true =>
    rw [cond_true]
    cases fGe (i2f Y) 0 with
    | true =>
      rw [cond_true]
      unfold g116
      rw [Option.bind_some]
      cases decide (IntKind.wrap .i64 ((i2f Y : Nat) : Int) < 0) with
      | false => exact fin (cs 0 0 (by decide) k0)
      | true => exact fin (cs _ 2 (by decide) kpi)
    | false => exact fin (cs _ 2 (by decide) kpi)
  | false =>
    rw [cond_false]
    cases cy : fEq (i2f Y) 0 with
    | true => exact fin (cs _ 1 (by decide) kh)
    | false =>
      rw [cond_false]
      obtain ⟨b1, f1⟩ := inf_tot n (i2f Y) 0
      obtain ⟨b2, f2⟩ := inf_tot n (i2f Y) 1
      obtain ⟨b3, f3⟩ := inf_tot n (i2f X) 0
      rw [f1, Option.bind_some]
      cases b1 with
      | true =>
        rw [cond_true, f2, Option.bind_some]
        cases b2 with
        | true =>
          rw [cond_true, f3, Option.bind_some]
          cases b3 with
          | true => exact fin (cs _ 0 (by decide) kq)
          | false => exact fin (cs _ 0 (by decide) k0)
        | false =>
          rw [cond_false, f3, Option.bind_some]
          cases b3 with
          | true => exact fin (cs _ 2 (by decide) k3)
          | false => exact fin (cs _ 2 (by decide) kpi)
      | false =>
        rw [cond_false, f3, Option.bind_some]
        cases b3 with
        | true => exact fin (cs _ 1 (by decide) kh)
        | false =>
          have hY0 : Y ≠ 0 := by
            rintro rfl
            rw [show fEq (i2f 0) 0 = true by decide +kernel] at cy; cases cy
          obtain ⟨t, m, j, q1, q2, q3, -⟩ := read_low hy (i2f_low hY0)
          obtain ⟨u, eu, fu, -⟩ := quo_fin hx q1 q2 q3 (by decide) (by decide)
          obtain ⟨r, e, f⟩ := atan_fin n (x := u) (fu.up (by decide) (by decide))
          rw [cond_false, eu, Option.bind_some, e, Option.bind_some]
          cases fLt (i2f Y) 0 with
          | false => exact ⟨r, rfl, f.up (by decide) (by decide)⟩
          | true =>
            rw [cond_true]
            cases fLe r 0 with
            | true =>
              obtain ⟨v, ev, fv, -⟩ := add_sharp f kpi (by decide)
              rw [cond_true, ev]
              exact ⟨v, rfl, fv.up (by decide) (by decide)⟩
            | false =>
              obtain ⟨v, ev, fv⟩ := sub_sharp f kpi (by decide)
              rw [cond_false, ev]
              exact ⟨v, rfl, fv.up (by decide) (by decide)⟩
end Go.Proofs.YteaimbiojpjneaaGreatDoor
