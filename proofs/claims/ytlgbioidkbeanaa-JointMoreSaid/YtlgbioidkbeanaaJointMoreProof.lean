/- With one more option the least cost is not greater: JointMore returns true at every input, and its arguments read afterwards as before. Conditions: none. -/
import Derived.Test.YtlgbioidkbeanaaJms
import Derived.SizedLaws
import Derived.Test.YtlgbioidkbeanaaPi23
import Derived.WalkKit
import Derived.ProofKit
import Derived.OpenShut
import Derived.ShutString
import Derived.ChangeOld
import Derived.Below
import Derived.Lib.SmallJoins
namespace Go.Proofs.Ytlgbioidkbeanaa.liftJointMore
open Go.Proofs.Ytlgbioidkbeanaa
open Go.ChangeShapes Go.WideShapes Go.ChangeAt Go.RowKit Go.Joins
open Go.ChangeMaps (open_string shut_string)
set_option linter.unusedVariables false

def fineI (z : Int) : Prop := -9223372036854775808 ≤ z ∧ z ≤ 9223372036854775807
def fineS (s : ByteArray) : Prop := s.size ≤ maxLen
def fineB (b : Bool) : Prop := True
def fineL {α : Type} (p : α → Prop) (l : List α) : Prop := l.length ≤ maxLen ∧ ∀ x ∈ l, p x
theorem reads_pair {W : World} {a b : Sh} {cs : List Value} (h : Reads W (.pair a b) cs) : ∃ xs ys, cs = xs ++ ys ∧ Reads W a xs ∧ Reads W b ys := by simpa only [Reads] using h
theorem reads_unit {W : World} {cs : List Value} (h : Reads W .unit cs) : cs = [] := by simpa only [Reads] using h
theorem reads_int {W : World} {cs : List Value} (h : Reads W .int cs) : ∃ n : Int, cs = [.int .i64 n] ∧ fineI n := by simp only [Reads] at h; exact h
theorem reads_str {W : World} {cs : List Value} (h : Reads W .str cs) : ∃ s : ByteArray, cs = [.string s] ∧ fineS s := by simp only [Reads] at h; exact h
theorem reads_bool {W : World} {cs : List Value} (h : Reads W .bool cs) : ∃ b : Bool, cs = [.bool b] ∧ fineB b := by
  simp only [Reads] at h
  obtain ⟨b, rfl⟩ := h
  exact ⟨b, rfl, trivial⟩
theorem reads_sl {W : World} {e : Sh} {cs : List Value} (h : Reads W (.sl e) cs) : ∃ a n c, cs = [.slice a n c] ∧ Reads W (.sl e) [.slice a n c] := by
  have h' := h
  simp only [Reads] at h'
  obtain ⟨a, n, c, rfl, -⟩ := h'
  exact ⟨a, n, c, rfl, h⟩
theorem okWide_arr {P : Program} {W : World} {r : Reach} {base : Nat} {t e : TypeId} {v : Value} {n : Nat} (ht : P.underlying t = some (.array n e)) (h : Value.okWide P W r base t v) : ∃ cs, v = .agg cs ∧ cs.size = P.cellsOf t := by
  simp only [Value.okWide, ht] at h
  obtain ⟨cs, h1, h2, _⟩ := h
  exact ⟨cs, h1, h2⟩
theorem agg_cells {v : Value} {cs : Array Value} {l : List Value} (hv : v = .agg cs) (h : v.cells.toList = l) : v = .agg l.toArray := by
  subst hv; simp [Value.cells] at h; rw [← h]
def fineTTubeNode (x : TTubeNode) : Prop := fineI x.Node_Time ∧ fineI x.Node_At_X ∧ fineI x.Node_At_Y ∧ fineI x.Node_Height ∧ fineI x.Radius ∧ fineI x.Band
theorem rd_lTTubeNode {W : World} {a : Option Addr} {n c : Nat} (h : Reads W (.sl (.pair (.pair .int (.pair (.pair .int (.pair .int .unit)) (.pair .int .unit))) (.pair .int (.pair .int .unit)))) [.slice a n c]) : ∃ l : List TTubeNode, VRel (cx0 W) (lstA TTubeNode.E l) (.slice a n c) ∧ fineL fineTTubeNode l :=
  reads_lst TTubeNode.E _ fineTTubeNode rfl (fun es _ h => by
    obtain ⟨ux0, wx0, rfl, hx0, qx0⟩ := reads_pair h
    obtain ⟨ux00, wx00, rfl, hx00, qx00⟩ := reads_pair hx0
    obtain ⟨x00, rfl, fx00⟩ := reads_int hx00
    obtain ⟨ux01, wx01, rfl, hx01, qx01⟩ := reads_pair qx00
    obtain ⟨ux010, wx010, rfl, hx010, qx010⟩ := reads_pair hx01
    obtain ⟨x010, rfl, fx010⟩ := reads_int hx010
    obtain ⟨ux011, wx011, rfl, hx011, qx011⟩ := reads_pair qx010
    obtain ⟨x011, rfl, fx011⟩ := reads_int hx011
    obtain rfl := reads_unit qx011
    obtain ⟨ux02, wx02, rfl, hx02, qx02⟩ := reads_pair qx01
    obtain ⟨x02, rfl, fx02⟩ := reads_int hx02
    obtain rfl := reads_unit qx02
    obtain ⟨ux1, wx1, rfl, hx1, qx1⟩ := reads_pair qx0
    obtain ⟨x1, rfl, fx1⟩ := reads_int hx1
    obtain ⟨ux2, wx2, rfl, hx2, qx2⟩ := reads_pair qx1
    obtain ⟨x2, rfl, fx2⟩ := reads_int hx2
    obtain rfl := reads_unit qx2
    exact ⟨⟨x00, x010, x011, x02, x1, x2⟩, (rels_cons rfl (rels_cons rfl (rels_cons rfl (rels_cons rfl (rels_cons rfl (rels_cons rfl .nil)))))), ⟨fx00, fx010, fx011, fx02, fx1, fx2⟩⟩) h
def fineTJointOption (x : TJointOption) : Prop := fineI x.Cost ∧ (fineL fineTTubeNode) x.Tube
theorem rd_lTJointOption {W : World} {a : Option Addr} {n c : Nat} (h : Reads W (.sl (.pair .int (.pair (.sl (.pair (.pair .int (.pair (.pair .int (.pair .int .unit)) (.pair .int .unit))) (.pair .int (.pair .int .unit)))) .unit))) [.slice a n c]) : ∃ l : List TJointOption, VRel (cx0 W) (lstA TJointOption.E l) (.slice a n c) ∧ fineL fineTJointOption l :=
  reads_lst TJointOption.E _ fineTJointOption rfl (fun es _ h => by
    obtain ⟨ux0, wx0, rfl, hx0, qx0⟩ := reads_pair h
    obtain ⟨x0, rfl, fx0⟩ := reads_int hx0
    obtain ⟨ux1, wx1, rfl, hx1, qx1⟩ := reads_pair qx0
    obtain ⟨ax1, nx1, cx1, rfl, hx1⟩ := reads_sl hx1
    obtain ⟨x1, rx1, fx1⟩ := rd_lTTubeNode hx1
    obtain rfl := reads_unit qx1
    exact ⟨⟨x0, x1⟩, (rels_cons rfl (.cons rx1 .nil)), ⟨fx0, fx1⟩⟩) h
theorem rd_llTJointOption {W : World} {a : Option Addr} {n c : Nat} (h : Reads W (.sl (.sl (.pair .int (.pair (.sl (.pair (.pair .int (.pair (.pair .int (.pair .int .unit)) (.pair .int .unit))) (.pair .int (.pair .int .unit)))) .unit)))) [.slice a n c]) : ∃ l : List (List TJointOption), VRel (cx0 W) (lstA (lstE TJointOption.E) l) (.slice a n c) ∧ fineL (fineL fineTJointOption) l :=
  reads_lst (lstE TJointOption.E) _ (fineL fineTJointOption) rfl (fun es _ h => by
    obtain ⟨ax, nx, cx, rfl, h⟩ := reads_sl h
    obtain ⟨x, rx, fx⟩ := rd_lTJointOption h
    exact ⟨x, (.cons rx .nil), fx⟩) h
def fineTSep (x : TSep) : Prop := fineI x.Lateral ∧ fineI x.Vertical
theorem sliceN {c : Cx} {α : Type} {E : En α} {l : List α} {a : Option Addr} {n cap : Nat} (h : VRel c (lstA E l) (.slice a n cap)) : l.length = n := by
  have key : ∀ {v : AV} {u : Value}, VRel c v u → ∀ (k : Nat) (cs : List AV) (ex : Bool) (a : Option Addr) (n cap : Nat), v = .lst k cs ex → u = .slice a n cap → k = n := by
    intro v u h k cs ex a n cap h1 h2
    cases h <;> simp_all
  exact key h _ _ _ _ _ _ rfl rfl
theorem len_room {H : Type} {enc : TypeId × Value → H} {P : Program} {W : World} {ts : List TypeId} {ds : List (DataW H)} (h : (DataW.weightsEach P ts ds).all (· ≤ reachBytes) = true) {j : Nat} {t e : TypeId} (ht : ts[j]? = some t) {d : DataW H} (hd : ds[j]? = some d) (hu : P.underlying t = some (.slice e)) {a : Option Addr} {n cap base : Nat} {sp : Nat → Bool} {held : Bool} {p : List MemPlace} (hk : DataW.Trod enc P W base sp held t (.slice a n cap) d p) : n * P.bytesOf e ≤ reachBytes := by
  obtain ⟨fuel, hf⟩ := hk
  rcases DataW.trod_slice hu hf with ⟨h1, -⟩ | ⟨a', len, cap', elems, rest, m, -, h1, hx, -, -, -, hl, -⟩
  · have h1 : [Value.slice a n cap] = [.slice none 0 0] := h1
    simp only [List.cons.injEq, Value.slice.injEq, and_true] at h1
    obtain ⟨-, rfl, -⟩ := h1
    simp
  · have h1 : [Value.slice a n cap] = [.slice (some a') len cap'] := h1
    simp only [List.cons.injEq, Value.slice.injEq, and_true] at h1
    obtain ⟨-, rfl, -⟩ := h1
    simp only [Prod.mk.injEq] at hx
    obtain ⟨rfl, -⟩ := hx
    have := sized_slice h ht hd hu
    rw [List.length_map, List.length_map, hl] at this
    exact Nat.le_trans (Nat.mul_le_mul_right _ (Nat.le_add_right _ _)) this
theorem own : ownKnob Try.prog.godebug = none := by kernel_rfl
theorem laidOut : laidOutB Try.prog = true := by kernel_rfl
set_option maxRecDepth 100000 in
theorem lifted (os : Os) (started : os.Started) (H : Type) (enc : TypeId × Value → H) :
    ReturnsInHanded {} Try.checked os 4 .any (Rows.jointMoreSpec.pre6 enc Try.prog Try.f4 Rows.jointMoreRow.domain false) (Rows.jointMoreSpec.post enc Try.prog Try.f4 false true false false) := by
  refine returnsInHanded_of_change_sized (C := Try.checked) own started (by kernel_rfl) Try.func4
    (ChangeSpec.witness6 (enc := enc) (C := Try.checked) false ⟨#[], #[.slice none 0 0, .agg #[.int .i64 0, .int .i64 0], .agg #[.int .i64 0, .slice none 0 0], .int .i64 0], []⟩ 8 (by kernel_rfl) (by kernel_rfl) (by kernel_rfl) (by kernel_rfl)) ?_
  intro W base args ds gs before hval0 hW hcnd hwgt hsz
  have hval : ∀ (j : Nat) t v, Try.f4.params[j]? = some t → args[j]? = some v → Value.okWide Try.prog W .any base t v := hval0
  have hW' := hW
  obtain ⟨p, q, hA0, hV, rfl, hfz, hnd⟩ := hW
  have hA : DataW.TrodAll enc Try.prog W 0 (fun _ => true) true Try.f4.params.toList args.toList ds p := hA0
  rw [Try.params4] at hA hval
  obtain ⟨v0, vs0, d0, ds0, p0, q0, hargs, rfl, rfl, k0, r0⟩ := trodAll_cons hA
  obtain ⟨v1, vs1, d1, ds1, p1, q1, rfl, rfl, rfl, k1, r1⟩ := trodAll_cons r0
  obtain ⟨v2, vs2, d2, ds2, p2, q2, rfl, rfl, rfl, k2, r2⟩ := trodAll_cons r1
  obtain ⟨v3, vs3, d3, ds3, p3, q3, rfl, rfl, rfl, k3, r3⟩ := trodAll_cons r2
  obtain ⟨rfl, rfl, rfl⟩ := trodAll_nil r3
  obtain rfl : args = #[v0, v1, v2, v3] := by cases args; simp_all
  obtain ⟨rfl, rfl⟩ := trodVars_none hV
  have lt0 : ∀ x ∈ p0, x.block < W.heap.size := by obtain ⟨m, hm⟩ := k0; exact DataW.trod_lt m _ _ _ hm
  have o0 := hval 0 22 v0 rfl rfl
  have lt1 : ∀ x ∈ p1, x.block < W.heap.size := by obtain ⟨m, hm⟩ := k1; exact DataW.trod_lt m _ _ _ hm
  have o1 := hval 1 24 v1 rfl rfl
  have lt2 : ∀ x ∈ p2, x.block < W.heap.size := by obtain ⟨m, hm⟩ := k2; exact DataW.trod_lt m _ _ _ hm
  have o2 := hval 2 39 v2 rfl rfl
  have lt3 : ∀ x ∈ p3, x.block < W.heap.size := by obtain ⟨m, hm⟩ := k3; exact DataW.trod_lt m _ _ _ hm
  have o3 := hval 3 3 v3 rfl rfl
  obtain ⟨a0, n0, c0, rfl⟩ := okWide_slice Try.underlying22 o0
  obtain ⟨l0, rr0, f0⟩ := rd_llTJointOption (reads_arg (.sl (.sl (.pair .int (.pair (.sl (.pair (.pair .int (.pair (.pair .int (.pair .int .unit)) (.pair .int .unit))) (.pair .int (.pair .int .unit)))) .unit)))) (by kernel_rfl) k0)
  obtain ⟨cs1, hcs1, -⟩ := okWide_struct Try.underlying24 o1
  have h1 := reads_arg (.pair .int (.pair .int .unit)) (by kernel_rfl) k1
  generalize hg1 : v1.cells.toList = es1 at h1
  obtain ⟨ux10, wx10, rfl, hx10, qx10⟩ := reads_pair h1
  obtain ⟨x10, rfl, fx10⟩ := reads_int hx10
  obtain ⟨ux11, wx11, rfl, hx11, qx11⟩ := reads_pair qx10
  obtain ⟨x11, rfl, fx11⟩ := reads_int hx11
  obtain rfl := reads_unit qx11
  obtain rfl := agg_cells hcs1 hg1
  obtain ⟨cs2, hcs2, -⟩ := okWide_struct Try.underlying39 o2
  have h2 := reads_arg (.pair .int (.pair (.sl (.pair (.pair .int (.pair (.pair .int (.pair .int .unit)) (.pair .int .unit))) (.pair .int (.pair .int .unit)))) .unit)) (by kernel_rfl) k2
  generalize hg2 : v2.cells.toList = es2 at h2
  obtain ⟨ux20, wx20, rfl, hx20, qx20⟩ := reads_pair h2
  obtain ⟨x20, rfl, fx20⟩ := reads_int hx20
  obtain ⟨ux21, wx21, rfl, hx21, qx21⟩ := reads_pair qx20
  obtain ⟨ax21, nx21, cx21, rfl, hx21⟩ := reads_sl hx21
  obtain ⟨x21, rx21, fx21⟩ := rd_lTTubeNode hx21
  obtain rfl := reads_unit qx21
  obtain rfl := agg_cells hcs2 hg2
  obtain ⟨l3, rfl, -, -, f3⟩ := open_int Try.underlying3 o3 k3
  have r0 : l0.length * 24 ≤ 140737488351232 := by
    have := len_room hwgt (j := 0) (by kernel_rfl) rfl Try.underlying22 k0
    rw [← sliceN rr0, show Try.checked.prog.bytesOf 43 = 24 by kernel_rfl] at this
    exact this
  have q0 : ∀ o ∈ l0, o.length * 32 ≤ 140737488351232 := by
    intro o ho
    obtain ⟨i, hi⟩ := List.getElem?_of_mem ho
    obtain ⟨ba, off, ha, -, oa, oc, hc, -⟩ := opts_cells (rel_in rr0 (lstA_clean _ _)) i o hi
    subst ha
    have := row_room hwgt (j := 0) (by kernel_rfl) rfl Try.underlying22 Try.underlying43 (by kernel_rfl) k0 (i := i) (by rw [← sliceN rr0]; exact (List.getElem?_eq_some_iff.1 hi).1) (by rw [show (⟨ba, off, none⟩ : Addr).add i = ⟨ba, off + i, none⟩ by unfold Addr.add; split <;> simp_all]; exact hc)
    rw [show Try.checked.prog.bytesOf 39 = 32 by kernel_rfl] at this
    exact this
  clear hA0 hval0
  refine (calls_of_says (more_says (s := ⟨x10, x11⟩) (o := ⟨x20, x21⟩) (more_law 10000000000000000000 (by unfold big; decide) l0 ⟨x10, x11⟩ ⟨x20, x21⟩ l3 r0 (by omega) (fun o h => ⟨q0 o h, by have := q0 o h; omega⟩))) glob_none (.cons rr0 (.cons (.agg (rels_cons rfl (rels_cons rfl .nil))) (.cons (.agg (rels_cons rfl (.cons rx21 .nil))) (rels_cons rfl .nil))))).mono fun e W' ⟨he, bel⟩ => ?_
  subst he
  exact ⟨_, rfl, _, _, _, [], _, [], hW', trodAll_mk1 (shut_bool Try.underlying4 _), (trodAll_cons_mk (Below.trod laidOut (by kernel_rfl) (of_decide_eq_true (by kernel_rfl)) k0 bel lt0) (trodAll_cons_mk (Below.trod laidOut (by kernel_rfl) (of_decide_eq_true (by kernel_rfl)) k1 bel lt1) (trodAll_cons_mk (Below.trod laidOut (by kernel_rfl) (of_decide_eq_true (by kernel_rfl)) k2 bel lt2) (trodAll_cons_mk (Below.trod laidOut (by kernel_rfl) (of_decide_eq_true (by kernel_rfl)) k3 bel lt3) trodAll_mk0)))), rfl, bel.frame _, fun h => by cases h⟩

theorem over : Rows.jointMoreRow.holds Try.pinned (OpenSpec.ofChange Rows.jointMoreSpec) :=
  OpenClaim.holds_of_wide 4 Try.f4 rfl rfl rfl rfl rfl rfl rfl ⟨rfl, rfl, rfl, rfl, rfl⟩ rfl rfl rfl rfl rfl (by kernel_rfl) Try.func4 (by kernel_rfl)
    (of_decide_eq_true (by kernel_rfl)) (by unfold Func.isWrapper; first | (rw [if_pos (by decide +kernel)]; kernel_rfl) | (rw [if_neg (by decide +kernel)]; exact ⟨rfl, rfl⟩))
    (fun os started H enc _ => lifted os started H enc)
end Go.Proofs.Ytlgbioidkbeanaa.liftJointMore

namespace Go.Proofs.Ytlgbioidkbeanaa
/-- With one more option the least cost is not greater: JointMore returns true at every input, and its arguments read afterwards as before. Conditions: none. -/
theorem jointMore_holds : Rows.JointMoreSaid := liftJointMore.over
#print axioms jointMore_holds
end Go.Proofs.Ytlgbioidkbeanaa
