/- joint.Best, as a plain program. -/
import Derived.Test.YtlgbioidkbeanaaJc
import Derived.Test.YtlgbioidkbeanaaX1E2
set_option linter.unusedVariables false
set_option linter.unusedSimpArgs false
namespace Go.Proofs.Ytlgbioidkbeanaa
open Go.RowKit Go.Shelf

theorem sgJ : SgJ := ⟨fun _ _ _ _ _ h => sg42 h, fun _ _ _ h => sg36 h, fun _ _ _ h => sg23 h⟩
theorem sep_of {c : Cx} {s : TSep} {v : Value} (h : VRel c (AV.agg [intA s.Lateral, intA s.Vertical]) v) : v = .agg #[.int .i64 s.Lateral, .int .i64 s.Vertical] := by
  cases h with
  | agg h =>
    cases h with
    | cons h1 t =>
    cases t with
    | cons h2 t =>
    cases t
    rw [int_of2 h1, int_of2 h2]
theorem rel_in {c : Cx} {x : AV} {v : Value} (r : VRel c x v) (q : clean x = true) : VRel (cxA (fun _ => False) c.w) x v := r.moved (c := c) (c' := cxA (fun _ => False) c.w) (fun b ⟨q1, _, _⟩ => ⟨q1, cxA_own b, fun h => h⟩) (fun _ _ _ _ hc => hc) q
theorem rel_out {B : Nat} {c : Cx} (g : Good B c) {w' : World} {x : AV} {v : Value} (r : VRel (cxA (fun k => k < c.w.heap.size) w') x v) (q : clean x = true) : VRel { c with w := w' } x v := by
  refine r.moved (c := cxA (fun k => k < c.w.heap.size) w') (c' := { c with w := w' }) (fun b ⟨q1, _, q3⟩ => ⟨q1, ?_, fun hq => ?_⟩) (fun _ _ _ _ hc => hc) q
  · rintro ⟨id, bk, p1, p2⟩
    have := g.lt p1
    have p2 : c.f id = b := p2
    exact q3 (show b < c.w.heap.size by omega)
  · have := g.nol b hq
    have := g.hB
    exact q3 (show b < c.w.heap.size by omega)
theorem sg9 {n : Nat} {a0 : List (List TJointOption)} {a1 : TSep} {t : ρ9} (h : g9 n a0 a1 = some t) : Says Try.prog KK.gl 9 [(lstA (lstE TJointOption.E) a0), (AV.agg [(intA a1.Lateral), (intA a1.Vertical)])] ((AV.tup [(lstA intE t.1), (intA t.2.1), (intA t.2.2)])) := by
  refine says_of_calls ⟨Try.f9, _, Try.func9, rfl, by kernel_rfl⟩ (by simp [cleans, clean, encs_clean]) (by simp [cleans, clean, encs_clean]) fun B c vals g hgl hrel => ?_
  cases hrel with
  | cons r1 hrel =>
  cases hrel with
  | cons r2 hrel =>
  cases hrel
  obtain rfl := sep_of r2
  refine (best_calls sgJ h (rel_in r1 (lstA_clean _ _))).mono ?_
  rintro e w' ⟨v, rfl, hk, hv⟩
  exact ⟨_, rfl, hk, .tup (vs := [v, .int .i64 t.2.1, .int .i64 t.2.2]) (.cons (rel_out g hv (lstA_clean _ _)) (.cons (.sc _ rfl) (.cons (.sc _ rfl) .nil)))⟩
end Go.Proofs.Ytlgbioidkbeanaa
