/- Refutations of which one is missing, occurs twice or is changed are not accepted: JointNeeds returns true at every input, and its arguments read afterwards as before. Conditions: none. -/
import Derived.Test.YtlgbioidkbeanaaX1E3
import Derived.Test.YtlgbioidkbeanaaTj9
import Derived.Test.YtlgbioidkbeanaaPi23
import Derived.WalkKit
import Derived.ProofKit
import Derived.OpenShut
import Derived.ShutString
import Derived.ChangeOld
import Derived.Below
import Derived.Lib.SmallJoins
namespace Go.Proofs.Ytlgbioidkbeanaa.liftJointNeeds
open Go.Proofs.Ytlgbioidkbeanaa
open Go.ChangeShapes Go.WideShapes Go.ChangeAt Go.RowKit Go.Joins
open Go.ChangeMaps (open_string shut_string)
set_option linter.unusedVariables false

def fineI (z : Int) : Prop := -9223372036854775808 ≤ z ∧ z ≤ 9223372036854775807
def fineS (s : ByteArray) : Prop := s.size ≤ maxLen
def fineB (b : Bool) : Prop := True
def fineL {α : Type} (p : α → Prop) (l : List α) : Prop := l.length ≤ maxLen ∧ ∀ x ∈ l, p x
theorem reads_pair {W : World} {a b : Sh} {cs : List Value} (h : Reads W (.pair a b) cs) : ∃ xs ys, cs = xs ++ ys ∧ Reads W a xs ∧ Reads W b ys := by simpa only [Reads] using h
theorem reads_unit {W : World} {cs : List Value} (h : Reads W .unit cs) : cs = [] := by simpa only [Reads] using h
theorem reads_int {W : World} {cs : List Value} (h : Reads W .int cs) : ∃ n : Int, cs = [.int .i64 n] ∧ fineI n := by simp only [Reads] at h; exact h
theorem reads_str {W : World} {cs : List Value} (h : Reads W .str cs) : ∃ s : ByteArray, cs = [.string s] ∧ fineS s := by simp only [Reads] at h; exact h
theorem reads_bool {W : World} {cs : List Value} (h : Reads W .bool cs) : ∃ b : Bool, cs = [.bool b] ∧ fineB b := by
  simp only [Reads] at h
  obtain ⟨b, rfl⟩ := h
  exact ⟨b, rfl, trivial⟩
theorem reads_sl {W : World} {e : Sh} {cs : List Value} (h : Reads W (.sl e) cs) : ∃ a n c, cs = [.slice a n c] ∧ Reads W (.sl e) [.slice a n c] := by
  have h' := h
  simp only [Reads] at h'
  obtain ⟨a, n, c, rfl, -⟩ := h'
  exact ⟨a, n, c, rfl, h⟩
theorem okWide_arr {P : Program} {W : World} {r : Reach} {base : Nat} {t e : TypeId} {v : Value} {n : Nat} (ht : P.underlying t = some (.array n e)) (h : Value.okWide P W r base t v) : ∃ cs, v = .agg cs ∧ cs.size = P.cellsOf t := by
  simp only [Value.okWide, ht] at h
  obtain ⟨cs, h1, h2, _⟩ := h
  exact ⟨cs, h1, h2⟩
theorem agg_cells {v : Value} {cs : Array Value} {l : List Value} (hv : v = .agg cs) (h : v.cells.toList = l) : v = .agg l.toArray := by
  subst hv; simp [Value.cells] at h; rw [← h]
def fineTTubeNode (x : TTubeNode) : Prop := fineI x.Node_Time ∧ fineI x.Node_At_X ∧ fineI x.Node_At_Y ∧ fineI x.Node_Height ∧ fineI x.Radius ∧ fineI x.Band
theorem rd_lTTubeNode {W : World} {a : Option Addr} {n c : Nat} (h : Reads W (.sl (.pair (.pair .int (.pair (.pair .int (.pair .int .unit)) (.pair .int .unit))) (.pair .int (.pair .int .unit)))) [.slice a n c]) : ∃ l : List TTubeNode, VRel (cx0 W) (lstA TTubeNode.E l) (.slice a n c) ∧ fineL fineTTubeNode l :=
  reads_lst TTubeNode.E _ fineTTubeNode rfl (fun es _ h => by
    obtain ⟨ux0, wx0, rfl, hx0, qx0⟩ := reads_pair h
    obtain ⟨ux00, wx00, rfl, hx00, qx00⟩ := reads_pair hx0
    obtain ⟨x00, rfl, fx00⟩ := reads_int hx00
    obtain ⟨ux01, wx01, rfl, hx01, qx01⟩ := reads_pair qx00
    obtain ⟨ux010, wx010, rfl, hx010, qx010⟩ := reads_pair hx01
    obtain ⟨x010, rfl, fx010⟩ := reads_int hx010
    obtain ⟨ux011, wx011, rfl, hx011, qx011⟩ := reads_pair qx010
    obtain ⟨x011, rfl, fx011⟩ := reads_int hx011
    obtain rfl := reads_unit qx011
    obtain ⟨ux02, wx02, rfl, hx02, qx02⟩ := reads_pair qx01
    obtain ⟨x02, rfl, fx02⟩ := reads_int hx02
    obtain rfl := reads_unit qx02
    obtain ⟨ux1, wx1, rfl, hx1, qx1⟩ := reads_pair qx0
    obtain ⟨x1, rfl, fx1⟩ := reads_int hx1
    obtain ⟨ux2, wx2, rfl, hx2, qx2⟩ := reads_pair qx1
    obtain ⟨x2, rfl, fx2⟩ := reads_int hx2
    obtain rfl := reads_unit qx2
    exact ⟨⟨x00, x010, x011, x02, x1, x2⟩, (rels_cons rfl (rels_cons rfl (rels_cons rfl (rels_cons rfl (rels_cons rfl (rels_cons rfl .nil)))))), ⟨fx00, fx010, fx011, fx02, fx1, fx2⟩⟩) h
def fineTJointOption (x : TJointOption) : Prop := fineI x.Cost ∧ (fineL fineTTubeNode) x.Tube
theorem rd_lTJointOption {W : World} {a : Option Addr} {n c : Nat} (h : Reads W (.sl (.pair .int (.pair (.sl (.pair (.pair .int (.pair (.pair .int (.pair .int .unit)) (.pair .int .unit))) (.pair .int (.pair .int .unit)))) .unit))) [.slice a n c]) : ∃ l : List TJointOption, VRel (cx0 W) (lstA TJointOption.E l) (.slice a n c) ∧ fineL fineTJointOption l :=
  reads_lst TJointOption.E _ fineTJointOption rfl (fun es _ h => by
    obtain ⟨ux0, wx0, rfl, hx0, qx0⟩ := reads_pair h
    obtain ⟨x0, rfl, fx0⟩ := reads_int hx0
    obtain ⟨ux1, wx1, rfl, hx1, qx1⟩ := reads_pair qx0
    obtain ⟨ax1, nx1, cx1, rfl, hx1⟩ := reads_sl hx1
    obtain ⟨x1, rx1, fx1⟩ := rd_lTTubeNode hx1
    obtain rfl := reads_unit qx1
    exact ⟨⟨x0, x1⟩, (rels_cons rfl (.cons rx1 .nil)), ⟨fx0, fx1⟩⟩) h
theorem rd_llTJointOption {W : World} {a : Option Addr} {n c : Nat} (h : Reads W (.sl (.sl (.pair .int (.pair (.sl (.pair (.pair .int (.pair (.pair .int (.pair .int .unit)) (.pair .int .unit))) (.pair .int (.pair .int .unit)))) .unit)))) [.slice a n c]) : ∃ l : List (List TJointOption), VRel (cx0 W) (lstA (lstE TJointOption.E) l) (.slice a n c) ∧ fineL (fineL fineTJointOption) l :=
  reads_lst (lstE TJointOption.E) _ (fineL fineTJointOption) rfl (fun es _ h => by
    obtain ⟨ax, nx, cx, rfl, h⟩ := reads_sl h
    obtain ⟨x, rx, fx⟩ := rd_lTJointOption h
    exact ⟨x, (.cons rx .nil), fx⟩) h
def fineTSep (x : TSep) : Prop := fineI x.Lateral ∧ fineI x.Vertical
theorem own : ownKnob Try.prog.godebug = none := by kernel_rfl
theorem laidOut : laidOutB Try.prog = true := by kernel_rfl
set_option maxRecDepth 100000 in
theorem lifted (os : Os) (started : os.Started) (H : Type) (enc : TypeId × Value → H) :
    ReturnsInHanded {} Try.checked os 5 .any (Rows.jointNeedsSpec.pre6 enc Try.prog Try.f5 Rows.jointNeedsRow.domain false) (Rows.jointNeedsSpec.post enc Try.prog Try.f5 false true false false) := by
  refine returnsInHanded_of_change (C := Try.checked) own started (by kernel_rfl) Try.func5
    (ChangeSpec.witness6 (enc := enc) (C := Try.checked) false ⟨#[], #[.slice none 0 0, .agg #[.int .i64 0, .int .i64 0], .int .i64 0, .int .i64 0], []⟩ 8 (by kernel_rfl) (by kernel_rfl) (by kernel_rfl) (by kernel_rfl)) ?_
  intro W base args ds gs before hval0 hW hcnd hsz
  have hval : ∀ (j : Nat) t v, Try.f5.params[j]? = some t → args[j]? = some v → Value.okWide Try.prog W .any base t v := hval0
  have hW' := hW
  obtain ⟨p, q, hA0, hV, rfl, hfz, hnd⟩ := hW
  have hA : DataW.TrodAll enc Try.prog W 0 (fun _ => true) true Try.f5.params.toList args.toList ds p := hA0
  rw [Try.params5] at hA hval
  obtain ⟨v0, vs0, d0, ds0, p0, q0, hargs, rfl, rfl, k0, r0⟩ := trodAll_cons hA
  obtain ⟨v1, vs1, d1, ds1, p1, q1, rfl, rfl, rfl, k1, r1⟩ := trodAll_cons r0
  obtain ⟨v2, vs2, d2, ds2, p2, q2, rfl, rfl, rfl, k2, r2⟩ := trodAll_cons r1
  obtain ⟨v3, vs3, d3, ds3, p3, q3, rfl, rfl, rfl, k3, r3⟩ := trodAll_cons r2
  obtain ⟨rfl, rfl, rfl⟩ := trodAll_nil r3
  obtain rfl : args = #[v0, v1, v2, v3] := by cases args; simp_all
  obtain ⟨rfl, rfl⟩ := trodVars_none hV
  have lt0 : ∀ x ∈ p0, x.block < W.heap.size := by obtain ⟨m, hm⟩ := k0; exact DataW.trod_lt m _ _ _ hm
  have o0 := hval 0 22 v0 rfl rfl
  have lt1 : ∀ x ∈ p1, x.block < W.heap.size := by obtain ⟨m, hm⟩ := k1; exact DataW.trod_lt m _ _ _ hm
  have o1 := hval 1 24 v1 rfl rfl
  have lt2 : ∀ x ∈ p2, x.block < W.heap.size := by obtain ⟨m, hm⟩ := k2; exact DataW.trod_lt m _ _ _ hm
  have o2 := hval 2 3 v2 rfl rfl
  have lt3 : ∀ x ∈ p3, x.block < W.heap.size := by obtain ⟨m, hm⟩ := k3; exact DataW.trod_lt m _ _ _ hm
  have o3 := hval 3 3 v3 rfl rfl
  obtain ⟨a0, n0, c0, rfl⟩ := okWide_slice Try.underlying22 o0
  obtain ⟨l0, rr0, f0⟩ := rd_llTJointOption (reads_arg (.sl (.sl (.pair .int (.pair (.sl (.pair (.pair .int (.pair (.pair .int (.pair .int .unit)) (.pair .int .unit))) (.pair .int (.pair .int .unit)))) .unit)))) (by kernel_rfl) k0)
  obtain ⟨cs1, hcs1, -⟩ := okWide_struct Try.underlying24 o1
  have h1 := reads_arg (.pair .int (.pair .int .unit)) (by kernel_rfl) k1
  generalize hg1 : v1.cells.toList = es1 at h1
  obtain ⟨ux10, wx10, rfl, hx10, qx10⟩ := reads_pair h1
  obtain ⟨x10, rfl, fx10⟩ := reads_int hx10
  obtain ⟨ux11, wx11, rfl, hx11, qx11⟩ := reads_pair qx10
  obtain ⟨x11, rfl, fx11⟩ := reads_int hx11
  obtain rfl := reads_unit qx11
  obtain rfl := agg_cells hcs1 hg1
  obtain ⟨l2, rfl, -, -, f2⟩ := open_int Try.underlying3 o2 k2
  obtain ⟨l3, rfl, -, -, f3⟩ := open_int Try.underlying3 o3 k3
  clear hA0 hval0
  refine (calls_of_says (sg5 (needs_all l0 ⟨x10, x11⟩ l2 l3 (by have := f0.1; simp only [maxLen] at this; omega) (fun o h => by have := (f0.2 o h).1; simp only [maxLen] at this; omega))) glob_none (.cons rr0 (.cons (.agg (rels_cons rfl (rels_cons rfl .nil))) (rels_cons rfl (rels_cons rfl .nil))))).mono fun e W' ⟨he, bel⟩ => ?_
  subst he
  exact ⟨_, rfl, _, _, _, [], _, [], hW', trodAll_mk1 (shut_bool Try.underlying4 _), (trodAll_cons_mk (Below.trod laidOut (by kernel_rfl) (of_decide_eq_true (by kernel_rfl)) k0 bel lt0) (trodAll_cons_mk (Below.trod laidOut (by kernel_rfl) (of_decide_eq_true (by kernel_rfl)) k1 bel lt1) (trodAll_cons_mk (Below.trod laidOut (by kernel_rfl) (of_decide_eq_true (by kernel_rfl)) k2 bel lt2) (trodAll_cons_mk (Below.trod laidOut (by kernel_rfl) (of_decide_eq_true (by kernel_rfl)) k3 bel lt3) trodAll_mk0)))), rfl, bel.frame _, fun h => by cases h⟩

theorem over : Rows.jointNeedsRow.holds Try.pinned (OpenSpec.ofChange Rows.jointNeedsSpec) :=
  OpenClaim.holds_of_wide 5 Try.f5 rfl rfl rfl rfl rfl rfl rfl ⟨rfl, rfl, rfl, rfl, rfl⟩ rfl rfl rfl rfl rfl (by kernel_rfl) Try.func5 (by kernel_rfl)
    (of_decide_eq_true (by kernel_rfl)) (by unfold Func.isWrapper; first | (rw [if_pos (by decide +kernel)]; kernel_rfl) | (rw [if_neg (by decide +kernel)]; exact ⟨rfl, rfl⟩))
    (fun os started H enc _ => lifted os started H enc)
end Go.Proofs.Ytlgbioidkbeanaa.liftJointNeeds

namespace Go.Proofs.Ytlgbioidkbeanaa
/-- Refutations of which one is missing, occurs twice or is changed are not accepted: JointNeeds returns true at every input, and its arguments read afterwards as before. Conditions: none. -/
theorem jointNeeds_holds : Rows.JointNeedsSaid := liftJointNeeds.over
#print axioms jointNeeds_holds
end Go.Proofs.Ytlgbioidkbeanaa
