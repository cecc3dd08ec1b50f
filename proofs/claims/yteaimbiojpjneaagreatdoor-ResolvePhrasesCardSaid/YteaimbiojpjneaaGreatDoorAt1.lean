/- math.xatan, satan, atan of a finite number: finite. -/
import Derived.Test.YteaimbiojpjneaaGreatDoorFl4
import Derived.Test.YteaimbiojpjneaaGreatDoorX1G
set_option linter.unusedVariables false
set_option linter.unusedSimpArgs false
set_option maxHeartbeats 4000000
namespace Go.Proofs.YteaimbiojpjneaaGreatDoor

def cxp (w : Nat) : Int := (((w % 9223372036854775808 + 4503599627370495) / 4503599627370496 : Nat) : Int) - 1023
theorem const_at (w : Nat) (k : Int) (h : (Nat.blt w 18446744073709551616 && decide (-1022 ≤ cxp w) && decide (cxp w ≤ k) && decide (k ≤ 1023)) = true) : FinW w k := by
  simp only [Bool.and_eq_true, decide_eq_true_eq, Nat.blt_eq] at h
  obtain ⟨⟨⟨h1, h2⟩, h3⟩, h4⟩ := h
  unfold cxp at h2 h3
  exact ⟨h1, by omega, by omega, h4⟩
theorem xatan_fin (n : Nat) {x : Nat} (h : FinW x 4) : ∃ r, g136 n x = some r ∧ FinW r 43 := by
  unfold g136
  obtain ⟨z, ez, fz, pz⟩ := mul_sharp h h (by decide) (by decide)
  have pz := pz Iff.rfl
  obtain ⟨x1, e1, f1, -⟩ := mul_sharp (const_at 13829429103926125972 0 (by decide +kernel)) fz (by decide) (by decide)
  obtain ⟨x2, e2, f2, -⟩ := add_sharp f1 (const_at 13848613196940411002 5 (by decide +kernel)) (by decide)
  obtain ⟨x3, e3, f3, -⟩ := mul_sharp f2 fz (by decide) (by decide)
  obtain ⟨x4, e4, f4, -⟩ := add_sharp f3 (const_at 13858350711815275123 7 (by decide +kernel)) (by decide)
  obtain ⟨x5, e5, f5, -⟩ := mul_sharp f4 fz (by decide) (by decide)
  obtain ⟨x6, e6, f6, -⟩ := add_sharp f5 (const_at 13861719834326579749 7 (by decide +kernel)) (by decide)
  obtain ⟨x7, e7, f7, -⟩ := mul_sharp f6 fz (by decide) (by decide)
  obtain ⟨x8, e8, f8, -⟩ := add_sharp f7 (const_at 13857635882265799822 7 (by decide +kernel)) (by decide)
  obtain ⟨x9, e9, f9, -⟩ := mul_sharp fz f8 (by decide) (by decide)
  obtain ⟨y0, d0, g0, p0⟩ := add_sharp fz (const_at 4627690253511319612 5 (by decide +kernel)) (by decide)
  have p0 := p0 pz (by decide)
  obtain ⟨y1, d1, g1, p1⟩ := mul_sharp g0 fz (by decide) (by decide)
  have p1 := p1 ⟨fun _ => pz, fun _ => p0⟩
  obtain ⟨y2, d2, g2, p2⟩ := add_sharp g1 (const_at 4640010388282866213 8 (by decide +kernel)) (by decide)
  have p2 := p2 p1 (by decide)
  obtain ⟨y3, d3, g3, p3⟩ := mul_sharp g2 fz (by decide) (by decide)
  have p3 := p3 ⟨fun _ => pz, fun _ => p2⟩
  obtain ⟨y4, d4, g4, p4⟩ := add_sharp g3 (const_at 4646322940342877755 9 (by decide +kernel)) (by decide)
  have p4 := p4 p3 (by decide)
  obtain ⟨y5, d5, g5, p5⟩ := mul_sharp g4 fz (by decide) (by decide)
  have p5 := p5 ⟨fun _ => pz, fun _ => p4⟩
  obtain ⟨y6, d6, g6, p6⟩ := add_sharp g5 (const_at 4647246694406179306 9 (by decide +kernel)) (by decide)
  have p6 := p6 p5 (by decide)
  obtain ⟨y7, d7, g7, p7⟩ := mul_sharp g6 fz (by decide) (by decide)
  have p7 := p7 ⟨fun _ => pz, fun _ => p6⟩
  obtain ⟨y8, d8, g8, p8, l8⟩ := add_low g7 (const_at 4641049159275471596 8 (by decide +kernel)) (by decide) p7 (by decide) (lo := 7) (by unfold LoW; decide +kernel) (by decide)
  obtain ⟨t, m, j, q1, q2, q3, -⟩ := read_low g8 l8
  obtain ⟨u, eu, fu, -⟩ := quo_fin f9 q1 q2 q3 (by decide) (by decide)
  obtain ⟨v, ev, fv, -⟩ := mul_sharp h fu (by decide) (by decide)
  obtain ⟨w, ew, fw, -⟩ := add_sharp fv h (by decide)
  rw [ez, Option.bind_some, e1, Option.bind_some, e2, Option.bind_some, e3, Option.bind_some, e4, Option.bind_some, e5, Option.bind_some, e6, Option.bind_some, e7, Option.bind_some, e8, Option.bind_some, e9, Option.bind_some, d0, Option.bind_some, d1, Option.bind_some, d2, Option.bind_some, d3, Option.bind_some, d4, Option.bind_some, d5, Option.bind_some, d6, Option.bind_some, d7, Option.bind_some, d8, Option.bind_some, eu, Option.bind_some, ev, Option.bind_some, ew, Option.bind_some]
  exact ⟨w, rfl, fw⟩
end Go.Proofs.YteaimbiojpjneaaGreatDoor
