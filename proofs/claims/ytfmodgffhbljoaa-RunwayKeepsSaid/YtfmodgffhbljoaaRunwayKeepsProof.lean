/- Inserting departures keeps a plan safe, and all movements: RunwayKeeps returns true at every input, and its arguments read afterwards as before. Conditions: none. -/
import Derived.Test.YtfmodgffhbljoaaX1E3
import Derived.Test.YtfmodgffhbljoaaRun8
import Derived.Test.YtfmodgffhbljoaaPi23
import Derived.WalkKit
import Derived.ProofKit
import Derived.OpenShut
import Derived.ShutString
import Derived.ChangeOld
import Derived.Below
import Derived.Lib.SmallJoins
namespace Go.Proofs.Ytfmodgffhbljoaa.liftRunwayKeeps
open Go.Proofs.Ytfmodgffhbljoaa
open Go.ChangeShapes Go.WideShapes Go.ChangeAt Go.RowKit Go.Joins
open Go.ChangeMaps (open_string shut_string)
set_option linter.unusedVariables false

def fineI (z : Int) : Prop := -9223372036854775808 ≤ z ∧ z ≤ 9223372036854775807
def fineS (s : ByteArray) : Prop := s.size ≤ maxLen
def fineB (b : Bool) : Prop := True
def fineL {α : Type} (p : α → Prop) (l : List α) : Prop := l.length ≤ maxLen ∧ ∀ x ∈ l, p x
theorem reads_pair {W : World} {a b : Sh} {cs : List Value} (h : Reads W (.pair a b) cs) : ∃ xs ys, cs = xs ++ ys ∧ Reads W a xs ∧ Reads W b ys := by simpa only [Reads] using h
theorem reads_unit {W : World} {cs : List Value} (h : Reads W .unit cs) : cs = [] := by simpa only [Reads] using h
theorem reads_int {W : World} {cs : List Value} (h : Reads W .int cs) : ∃ n : Int, cs = [.int .i64 n] ∧ fineI n := by simp only [Reads] at h; exact h
theorem reads_str {W : World} {cs : List Value} (h : Reads W .str cs) : ∃ s : ByteArray, cs = [.string s] ∧ fineS s := by simp only [Reads] at h; exact h
theorem reads_bool {W : World} {cs : List Value} (h : Reads W .bool cs) : ∃ b : Bool, cs = [.bool b] ∧ fineB b := by
  simp only [Reads] at h
  obtain ⟨b, rfl⟩ := h
  exact ⟨b, rfl, trivial⟩
theorem reads_sl {W : World} {e : Sh} {cs : List Value} (h : Reads W (.sl e) cs) : ∃ a n c, cs = [.slice a n c] ∧ Reads W (.sl e) [.slice a n c] := by
  have h' := h
  simp only [Reads] at h'
  obtain ⟨a, n, c, rfl, -⟩ := h'
  exact ⟨a, n, c, rfl, h⟩
theorem okWide_arr {P : Program} {W : World} {r : Reach} {base : Nat} {t e : TypeId} {v : Value} {n : Nat} (ht : P.underlying t = some (.array n e)) (h : Value.okWide P W r base t v) : ∃ cs, v = .agg cs ∧ cs.size = P.cellsOf t := by
  simp only [Value.okWide, ht] at h
  obtain ⟨cs, h1, h2, _⟩ := h
  exact ⟨cs, h1, h2⟩
theorem agg_cells {v : Value} {cs : Array Value} {l : List Value} (hv : v = .agg cs) (h : v.cells.toList = l) : v = .agg l.toArray := by
  subst hv; simp [Value.cells] at h; rw [← h]
def fineTRunwayMove (x : TRunwayMove) : Prop := fineI x.Time ∧ fineI x.Wake ∧ fineB x.Departs ∧ fineI x.End
theorem rd_lTRunwayMove {W : World} {a : Option Addr} {n c : Nat} (h : Reads W (.sl (.pair .int (.pair .int (.pair .bool (.pair .int .unit))))) [.slice a n c]) : ∃ l : List TRunwayMove, VRel (cx0 W) (lstA TRunwayMove.E l) (.slice a n c) ∧ fineL fineTRunwayMove l :=
  reads_lst TRunwayMove.E _ fineTRunwayMove rfl (fun es _ h => by
    obtain ⟨ux0, wx0, rfl, hx0, qx0⟩ := reads_pair h
    obtain ⟨x0, rfl, fx0⟩ := reads_int hx0
    obtain ⟨ux1, wx1, rfl, hx1, qx1⟩ := reads_pair qx0
    obtain ⟨x1, rfl, fx1⟩ := reads_int hx1
    obtain ⟨ux2, wx2, rfl, hx2, qx2⟩ := reads_pair qx1
    obtain ⟨x2, rfl, fx2⟩ := reads_bool hx2
    obtain ⟨ux3, wx3, rfl, hx3, qx3⟩ := reads_pair qx2
    obtain ⟨x3, rfl, fx3⟩ := reads_int hx3
    obtain rfl := reads_unit qx3
    exact ⟨⟨x0, x1, x2, x3⟩, (rels_cons rfl (rels_cons rfl (rels_cons rfl (rels_cons rfl .nil)))), ⟨fx0, fx1, fx2, fx3⟩⟩) h
def fineTRunwaySpan (x : TRunwaySpan) : Prop := fineI x.From ∧ fineI x.End
theorem rd_lTRunwaySpan {W : World} {a : Option Addr} {n c : Nat} (h : Reads W (.sl (.pair .int (.pair .int .unit))) [.slice a n c]) : ∃ l : List TRunwaySpan, VRel (cx0 W) (lstA TRunwaySpan.E l) (.slice a n c) ∧ fineL fineTRunwaySpan l :=
  reads_lst TRunwaySpan.E _ fineTRunwaySpan rfl (fun es _ h => by
    obtain ⟨ux0, wx0, rfl, hx0, qx0⟩ := reads_pair h
    obtain ⟨x0, rfl, fx0⟩ := reads_int hx0
    obtain ⟨ux1, wx1, rfl, hx1, qx1⟩ := reads_pair qx0
    obtain ⟨x1, rfl, fx1⟩ := reads_int hx1
    obtain rfl := reads_unit qx1
    exact ⟨⟨x0, x1⟩, (rels_cons rfl (rels_cons rfl .nil)), ⟨fx0, fx1⟩⟩) h
def fineTRunwayReady (x : TRunwayReady) : Prop := fineI x.Time ∧ fineI x.Wake
theorem rd_lTRunwayReady {W : World} {a : Option Addr} {n c : Nat} (h : Reads W (.sl (.pair .int (.pair .int .unit))) [.slice a n c]) : ∃ l : List TRunwayReady, VRel (cx0 W) (lstA TRunwayReady.E l) (.slice a n c) ∧ fineL fineTRunwayReady l :=
  reads_lst TRunwayReady.E _ fineTRunwayReady rfl (fun es _ h => by
    obtain ⟨ux0, wx0, rfl, hx0, qx0⟩ := reads_pair h
    obtain ⟨x0, rfl, fx0⟩ := reads_int hx0
    obtain ⟨ux1, wx1, rfl, hx1, qx1⟩ := reads_pair qx0
    obtain ⟨x1, rfl, fx1⟩ := reads_int hx1
    obtain rfl := reads_unit qx1
    exact ⟨⟨x0, x1⟩, (rels_cons rfl (rels_cons rfl .nil)), ⟨fx0, fx1⟩⟩) h
theorem own : ownKnob Try.prog.godebug = none := by kernel_rfl
theorem laidOut : laidOutB Try.prog = true := by kernel_rfl
set_option maxRecDepth 100000 in
theorem lifted (os : Os) (started : os.Started) (H : Type) (enc : TypeId × Value → H) :
    ReturnsInHanded {} Try.checked os 7 .any (Rows.runwayKeepsSpec.pre6 enc Try.prog Try.f7 Rows.runwayKeepsRow.domain false) (Rows.runwayKeepsSpec.post enc Try.prog Try.f7 false true false false) := by
  refine returnsInHanded_of_change (C := Try.checked) own started (by kernel_rfl) Try.func7
    (ChangeSpec.witness6 (enc := enc) (C := Try.checked) false ⟨#[], #[.slice none 0 0, .slice none 0 0, .agg #[.int .i64 0, .int .i64 0, .int .i64 0, .int .i64 0, .int .i64 0, .int .i64 0, .int .i64 0, .int .i64 0, .int .i64 0, .int .i64 0, .int .i64 0, .int .i64 0, .int .i64 0, .int .i64 0, .int .i64 0, .int .i64 0], .slice none 0 0], []⟩ 8 (by kernel_rfl) (by kernel_rfl) (by kernel_rfl) (by kernel_rfl)) ?_
  intro W base args ds gs before hval0 hW hcnd hsz
  have hval : ∀ (j : Nat) t v, Try.f7.params[j]? = some t → args[j]? = some v → Value.okWide Try.prog W .any base t v := hval0
  have hW' := hW
  obtain ⟨p, q, hA0, hV, rfl, hfz, hnd⟩ := hW
  have hA : DataW.TrodAll enc Try.prog W 0 (fun _ => true) true Try.f7.params.toList args.toList ds p := hA0
  rw [Try.params7] at hA hval
  obtain ⟨v0, vs0, d0, ds0, p0, q0, hargs, rfl, rfl, k0, r0⟩ := trodAll_cons hA
  obtain ⟨v1, vs1, d1, ds1, p1, q1, rfl, rfl, rfl, k1, r1⟩ := trodAll_cons r0
  obtain ⟨v2, vs2, d2, ds2, p2, q2, rfl, rfl, rfl, k2, r2⟩ := trodAll_cons r1
  obtain ⟨v3, vs3, d3, ds3, p3, q3, rfl, rfl, rfl, k3, r3⟩ := trodAll_cons r2
  obtain ⟨rfl, rfl, rfl⟩ := trodAll_nil r3
  obtain rfl : args = #[v0, v1, v2, v3] := by cases args; simp_all
  obtain ⟨rfl, rfl⟩ := trodVars_none hV
  have lt0 : ∀ x ∈ p0, x.block < W.heap.size := by obtain ⟨m, hm⟩ := k0; exact DataW.trod_lt m _ _ _ hm
  have o0 := hval 0 37 v0 rfl rfl
  have lt1 : ∀ x ∈ p1, x.block < W.heap.size := by obtain ⟨m, hm⟩ := k1; exact DataW.trod_lt m _ _ _ hm
  have o1 := hval 1 38 v1 rfl rfl
  have lt2 : ∀ x ∈ p2, x.block < W.heap.size := by obtain ⟨m, hm⟩ := k2; exact DataW.trod_lt m _ _ _ hm
  have o2 := hval 2 24 v2 rfl rfl
  have lt3 : ∀ x ∈ p3, x.block < W.heap.size := by obtain ⟨m, hm⟩ := k3; exact DataW.trod_lt m _ _ _ hm
  have o3 := hval 3 47 v3 rfl rfl
  obtain ⟨a0, n0, c0, rfl⟩ := okWide_slice Try.underlying37 o0
  obtain ⟨l0, rr0, f0⟩ := rd_lTRunwayMove (reads_arg (.sl (.pair .int (.pair .int (.pair .bool (.pair .int .unit))))) (by kernel_rfl) k0)
  obtain ⟨a1, n1, c1, rfl⟩ := okWide_slice Try.underlying38 o1
  obtain ⟨l1, rr1, f1⟩ := rd_lTRunwaySpan (reads_arg (.sl (.pair .int (.pair .int .unit))) (by kernel_rfl) k1)
  obtain ⟨cs2, hcs2, -⟩ := okWide_arr Try.underlying24 o2
  have h2 := reads_arg (.pair (.pair .int (.pair .int (.pair .int (.pair .int .unit)))) (.pair (.pair .int (.pair .int (.pair .int (.pair .int .unit)))) (.pair (.pair .int (.pair .int (.pair .int (.pair .int .unit)))) (.pair (.pair .int (.pair .int (.pair .int (.pair .int .unit)))) .unit)))) (by kernel_rfl) k2
  generalize hg2 : v2.cells.toList = es2 at h2
  obtain ⟨ux20, wx20, rfl, hx20, qx20⟩ := reads_pair h2
  obtain ⟨ux200, wx200, rfl, hx200, qx200⟩ := reads_pair hx20
  obtain ⟨x200, rfl, fx200⟩ := reads_int hx200
  obtain ⟨ux201, wx201, rfl, hx201, qx201⟩ := reads_pair qx200
  obtain ⟨x201, rfl, fx201⟩ := reads_int hx201
  obtain ⟨ux202, wx202, rfl, hx202, qx202⟩ := reads_pair qx201
  obtain ⟨x202, rfl, fx202⟩ := reads_int hx202
  obtain ⟨ux203, wx203, rfl, hx203, qx203⟩ := reads_pair qx202
  obtain ⟨x203, rfl, fx203⟩ := reads_int hx203
  obtain rfl := reads_unit qx203
  obtain ⟨ux21, wx21, rfl, hx21, qx21⟩ := reads_pair qx20
  obtain ⟨ux210, wx210, rfl, hx210, qx210⟩ := reads_pair hx21
  obtain ⟨x210, rfl, fx210⟩ := reads_int hx210
  obtain ⟨ux211, wx211, rfl, hx211, qx211⟩ := reads_pair qx210
  obtain ⟨x211, rfl, fx211⟩ := reads_int hx211
  obtain ⟨ux212, wx212, rfl, hx212, qx212⟩ := reads_pair qx211
  obtain ⟨x212, rfl, fx212⟩ := reads_int hx212
  obtain ⟨ux213, wx213, rfl, hx213, qx213⟩ := reads_pair qx212
  obtain ⟨x213, rfl, fx213⟩ := reads_int hx213
  obtain rfl := reads_unit qx213
  obtain ⟨ux22, wx22, rfl, hx22, qx22⟩ := reads_pair qx21
  obtain ⟨ux220, wx220, rfl, hx220, qx220⟩ := reads_pair hx22
  obtain ⟨x220, rfl, fx220⟩ := reads_int hx220
  obtain ⟨ux221, wx221, rfl, hx221, qx221⟩ := reads_pair qx220
  obtain ⟨x221, rfl, fx221⟩ := reads_int hx221
  obtain ⟨ux222, wx222, rfl, hx222, qx222⟩ := reads_pair qx221
  obtain ⟨x222, rfl, fx222⟩ := reads_int hx222
  obtain ⟨ux223, wx223, rfl, hx223, qx223⟩ := reads_pair qx222
  obtain ⟨x223, rfl, fx223⟩ := reads_int hx223
  obtain rfl := reads_unit qx223
  obtain ⟨ux23, wx23, rfl, hx23, qx23⟩ := reads_pair qx22
  obtain ⟨ux230, wx230, rfl, hx230, qx230⟩ := reads_pair hx23
  obtain ⟨x230, rfl, fx230⟩ := reads_int hx230
  obtain ⟨ux231, wx231, rfl, hx231, qx231⟩ := reads_pair qx230
  obtain ⟨x231, rfl, fx231⟩ := reads_int hx231
  obtain ⟨ux232, wx232, rfl, hx232, qx232⟩ := reads_pair qx231
  obtain ⟨x232, rfl, fx232⟩ := reads_int hx232
  obtain ⟨ux233, wx233, rfl, hx233, qx233⟩ := reads_pair qx232
  obtain ⟨x233, rfl, fx233⟩ := reads_int hx233
  obtain rfl := reads_unit qx233
  obtain rfl := reads_unit qx23
  obtain rfl := agg_cells hcs2 hg2
  obtain ⟨a3, n3, c3, rfl⟩ := okWide_slice Try.underlying47 o3
  obtain ⟨l3, rr3, f3⟩ := rd_lTRunwayReady (reads_arg (.sl (.pair .int (.pair .int .unit))) (by kernel_rfl) k3)
  clear hA0 hval0
  refine (calls_of_says (sg7 (keeps_plain l0 l1 ⟨x200, x201, x202, x203, x210, x211, x212, x213, x220, x221, x222, x223, x230, x231, x232, x233⟩ l3 (by have := f3.1; unfold maxLen at this; omega))) glob_none (.cons rr0 (.cons rr1 (.cons (.agg (rels_cons rfl (rels_cons rfl (rels_cons rfl (rels_cons rfl (rels_cons rfl (rels_cons rfl (rels_cons rfl (rels_cons rfl (rels_cons rfl (rels_cons rfl (rels_cons rfl (rels_cons rfl (rels_cons rfl (rels_cons rfl (rels_cons rfl (rels_cons rfl .nil))))))))))))))))) (.cons rr3 .nil))))).mono fun e W' ⟨he, bel⟩ => ?_
  subst he
  exact ⟨_, rfl, _, _, _, [], _, [], hW', trodAll_mk1 (shut_bool Try.underlying4 _), (trodAll_cons_mk (Below.trod laidOut (by kernel_rfl) (of_decide_eq_true (by kernel_rfl)) k0 bel lt0) (trodAll_cons_mk (Below.trod laidOut (by kernel_rfl) (of_decide_eq_true (by kernel_rfl)) k1 bel lt1) (trodAll_cons_mk (Below.trod laidOut (by kernel_rfl) (of_decide_eq_true (by kernel_rfl)) k2 bel lt2) (trodAll_cons_mk (Below.trod laidOut (by kernel_rfl) (of_decide_eq_true (by kernel_rfl)) k3 bel lt3) trodAll_mk0)))), rfl, bel.frame _, fun h => by cases h⟩

theorem over : Rows.runwayKeepsRow.holds Try.pinned (OpenSpec.ofChange Rows.runwayKeepsSpec) :=
  OpenClaim.holds_of_wide 7 Try.f7 rfl rfl rfl rfl rfl rfl rfl ⟨rfl, rfl, rfl, rfl, rfl⟩ rfl rfl rfl rfl rfl (by kernel_rfl) Try.func7 (by kernel_rfl)
    (of_decide_eq_true (by kernel_rfl)) (by unfold Func.isWrapper; first | (rw [if_pos (by decide +kernel)]; kernel_rfl) | (rw [if_neg (by decide +kernel)]; exact ⟨rfl, rfl⟩))
    (fun os started H enc _ => lifted os started H enc)
end Go.Proofs.Ytfmodgffhbljoaa.liftRunwayKeeps

namespace Go.Proofs.Ytfmodgffhbljoaa
/-- Inserting departures keeps a plan safe, and all movements: RunwayKeeps returns true at every input, and its arguments read afterwards as before. Conditions: none. -/
theorem runwayKeeps_holds : Rows.RunwayKeepsSaid := liftRunwayKeeps.over
#print axioms runwayKeeps_holds
end Go.Proofs.Ytfmodgffhbljoaa
