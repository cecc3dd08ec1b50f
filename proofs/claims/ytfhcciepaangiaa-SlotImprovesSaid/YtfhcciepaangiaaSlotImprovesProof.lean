/- Nobody has a greater delay after a demand is withdrawn: SlotImproves returns true at every input, and its arguments read afterwards as before. Conditions: none. -/
import Derived.Test.YtfhcciepaangiaaX1E3
import Derived.Test.YtfhcciepaangiaaSlot8
import Derived.Test.YtfhcciepaangiaaPi23
import Derived.WalkKit
import Derived.ProofKit
import Derived.OpenShut
import Derived.ShutString
import Derived.ChangeOld
import Derived.Below
import Derived.Lib.SmallJoins
namespace Go.Proofs.Ytfhcciepaangiaa.liftSlotImproves
open Go.Proofs.Ytfhcciepaangiaa
open Go.ChangeShapes Go.WideShapes Go.ChangeAt Go.RowKit Go.Joins
open Go.ChangeMaps (open_string shut_string)
set_option linter.unusedVariables false

def fineI (z : Int) : Prop := -9223372036854775808 ≤ z ∧ z ≤ 9223372036854775807
def fineS (s : ByteArray) : Prop := s.size ≤ maxLen
def fineB (b : Bool) : Prop := True
def fineL {α : Type} (p : α → Prop) (l : List α) : Prop := l.length ≤ maxLen ∧ ∀ x ∈ l, p x
theorem reads_pair {W : World} {a b : Sh} {cs : List Value} (h : Reads W (.pair a b) cs) : ∃ xs ys, cs = xs ++ ys ∧ Reads W a xs ∧ Reads W b ys := by simpa only [Reads] using h
theorem reads_unit {W : World} {cs : List Value} (h : Reads W .unit cs) : cs = [] := by simpa only [Reads] using h
theorem reads_int {W : World} {cs : List Value} (h : Reads W .int cs) : ∃ n : Int, cs = [.int .i64 n] ∧ fineI n := by simp only [Reads] at h; exact h
theorem reads_str {W : World} {cs : List Value} (h : Reads W .str cs) : ∃ s : ByteArray, cs = [.string s] ∧ fineS s := by simp only [Reads] at h; exact h
theorem reads_bool {W : World} {cs : List Value} (h : Reads W .bool cs) : ∃ b : Bool, cs = [.bool b] ∧ fineB b := by
  simp only [Reads] at h
  obtain ⟨b, rfl⟩ := h
  exact ⟨b, rfl, trivial⟩
theorem reads_sl {W : World} {e : Sh} {cs : List Value} (h : Reads W (.sl e) cs) : ∃ a n c, cs = [.slice a n c] ∧ Reads W (.sl e) [.slice a n c] := by
  have h' := h
  simp only [Reads] at h'
  obtain ⟨a, n, c, rfl, -⟩ := h'
  exact ⟨a, n, c, rfl, h⟩
theorem agg_cells {v : Value} {cs : Array Value} {l : List Value} (hv : v = .agg cs) (h : v.cells.toList = l) : v = .agg l.toArray := by
  subst hv; simp [Value.cells] at h; rw [← h]
def fineTSlotDemand (x : TSlotDemand) : Prop := fineS x.Call ∧ fineI x.Time
theorem rd_lTSlotDemand {W : World} {a : Option Addr} {n c : Nat} (h : Reads W (.sl (.pair .str (.pair .int .unit))) [.slice a n c]) : ∃ l : List TSlotDemand, VRel (cx0 W) (lstA TSlotDemand.E l) (.slice a n c) ∧ fineL fineTSlotDemand l :=
  reads_lst TSlotDemand.E _ fineTSlotDemand rfl (fun es _ h => by
    obtain ⟨ux0, wx0, rfl, hx0, qx0⟩ := reads_pair h
    obtain ⟨x0, rfl, fx0⟩ := reads_str hx0
    obtain ⟨ux1, wx1, rfl, hx1, qx1⟩ := reads_pair qx0
    obtain ⟨x1, rfl, fx1⟩ := reads_int hx1
    obtain rfl := reads_unit qx1
    exact ⟨⟨x0, x1⟩, (rels_cons rfl (rels_cons rfl .nil)), ⟨fx0, fx1⟩⟩) h
def fineTFlowCap (x : TFlowCap) : Prop := fineI x.Span_From ∧ fineI x.Span_To ∧ fineI x.Many
theorem rd_lTFlowCap {W : World} {a : Option Addr} {n c : Nat} (h : Reads W (.sl (.pair (.pair .int (.pair .int .unit)) (.pair .int .unit))) [.slice a n c]) : ∃ l : List TFlowCap, VRel (cx0 W) (lstA TFlowCap.E l) (.slice a n c) ∧ fineL fineTFlowCap l :=
  reads_lst TFlowCap.E _ fineTFlowCap rfl (fun es _ h => by
    obtain ⟨ux0, wx0, rfl, hx0, qx0⟩ := reads_pair h
    obtain ⟨ux00, wx00, rfl, hx00, qx00⟩ := reads_pair hx0
    obtain ⟨x00, rfl, fx00⟩ := reads_int hx00
    obtain ⟨ux01, wx01, rfl, hx01, qx01⟩ := reads_pair qx00
    obtain ⟨x01, rfl, fx01⟩ := reads_int hx01
    obtain rfl := reads_unit qx01
    obtain ⟨ux1, wx1, rfl, hx1, qx1⟩ := reads_pair qx0
    obtain ⟨x1, rfl, fx1⟩ := reads_int hx1
    obtain rfl := reads_unit qx1
    exact ⟨⟨x00, x01, x1⟩, (rels_cons rfl (rels_cons rfl (rels_cons rfl .nil))), ⟨fx00, fx01, fx1⟩⟩) h
theorem own : ownKnob Try.prog.godebug = none := by kernel_rfl
theorem laidOut : laidOutB Try.prog = true := by kernel_rfl
set_option maxRecDepth 100000 in
theorem lifted (os : Os) (started : os.Started) (H : Type) (enc : TypeId × Value → H) :
    ReturnsInHanded {} Try.checked os 6 .any (Rows.slotImprovesSpec.pre6 enc Try.prog Try.f6 Rows.slotImprovesRow.domain false) (Rows.slotImprovesSpec.post enc Try.prog Try.f6 false true false false) := by
  refine returnsInHanded_of_change (C := Try.checked) own started (by kernel_rfl) Try.func6
    (ChangeSpec.witness6 (enc := enc) (C := Try.checked) false ⟨#[], #[.slice none 0 0, .slice none 0 0, .int .i64 0], []⟩ 8 (by kernel_rfl) (by kernel_rfl) (by kernel_rfl) (by kernel_rfl)) ?_
  intro W base args ds gs before hval0 hW hcnd hsz
  have hval : ∀ (j : Nat) t v, Try.f6.params[j]? = some t → args[j]? = some v → Value.okWide Try.prog W .any base t v := hval0
  have hW' := hW
  obtain ⟨p, q, hA0, hV, rfl, hfz, hnd⟩ := hW
  have hA : DataW.TrodAll enc Try.prog W 0 (fun _ => true) true Try.f6.params.toList args.toList ds p := hA0
  rw [Try.params6] at hA hval
  obtain ⟨v0, vs0, d0, ds0, p0, q0, hargs, rfl, rfl, k0, r0⟩ := trodAll_cons hA
  obtain ⟨v1, vs1, d1, ds1, p1, q1, rfl, rfl, rfl, k1, r1⟩ := trodAll_cons r0
  obtain ⟨v2, vs2, d2, ds2, p2, q2, rfl, rfl, rfl, k2, r2⟩ := trodAll_cons r1
  obtain ⟨rfl, rfl, rfl⟩ := trodAll_nil r2
  obtain rfl : args = #[v0, v1, v2] := by cases args; simp_all
  obtain ⟨rfl, rfl⟩ := trodVars_none hV
  have lt0 : ∀ x ∈ p0, x.block < W.heap.size := by obtain ⟨m, hm⟩ := k0; exact DataW.trod_lt m _ _ _ hm
  have o0 := hval 0 39 v0 rfl rfl
  have lt1 : ∀ x ∈ p1, x.block < W.heap.size := by obtain ⟨m, hm⟩ := k1; exact DataW.trod_lt m _ _ _ hm
  have o1 := hval 1 22 v1 rfl rfl
  have lt2 : ∀ x ∈ p2, x.block < W.heap.size := by obtain ⟨m, hm⟩ := k2; exact DataW.trod_lt m _ _ _ hm
  have o2 := hval 2 3 v2 rfl rfl
  obtain ⟨a0, n0, c0, rfl⟩ := okWide_slice Try.underlying39 o0
  obtain ⟨l0, rr0, f0⟩ := rd_lTSlotDemand (reads_arg (.sl (.pair .str (.pair .int .unit))) (by kernel_rfl) k0)
  obtain ⟨a1, n1, c1, rfl⟩ := okWide_slice Try.underlying22 o1
  obtain ⟨l1, rr1, f1⟩ := rd_lTFlowCap (reads_arg (.sl (.pair (.pair .int (.pair .int .unit)) (.pair .int .unit))) (by kernel_rfl) k1)
  obtain ⟨l2, rfl, -, -, f2⟩ := open_int Try.underlying3 o2 k2
  clear hA0 hval0
  refine (calls_of_says (sg6 (improves_law 301 (by omega) l0 l1 l2)) glob_none (.cons rr0 (.cons rr1 (rels_cons rfl .nil)))).mono fun e W' ⟨he, bel⟩ => ?_
  subst he
  exact ⟨_, rfl, _, _, _, [], _, [], hW', trodAll_mk1 (shut_bool Try.underlying4 _), (trodAll_cons_mk (Below.trod laidOut (by kernel_rfl) (of_decide_eq_true (by kernel_rfl)) k0 bel lt0) (trodAll_cons_mk (Below.trod laidOut (by kernel_rfl) (of_decide_eq_true (by kernel_rfl)) k1 bel lt1) (trodAll_cons_mk (Below.trod laidOut (by kernel_rfl) (of_decide_eq_true (by kernel_rfl)) k2 bel lt2) trodAll_mk0))), rfl, bel.frame _, fun h => by cases h⟩

theorem over : Rows.slotImprovesRow.holds Try.pinned (OpenSpec.ofChange Rows.slotImprovesSpec) :=
  OpenClaim.holds_of_wide 6 Try.f6 rfl rfl rfl rfl rfl rfl rfl ⟨rfl, rfl, rfl, rfl, rfl⟩ rfl rfl rfl rfl rfl (by kernel_rfl) Try.func6 (by kernel_rfl)
    (of_decide_eq_true (by kernel_rfl)) (by unfold Func.isWrapper; first | (rw [if_pos (by decide +kernel)]; kernel_rfl) | (rw [if_neg (by decide +kernel)]; exact ⟨rfl, rfl⟩))
    (fun os started H enc _ => lifted os started H enc)
end Go.Proofs.Ytfhcciepaangiaa.liftSlotImproves

namespace Go.Proofs.Ytfhcciepaangiaa
/-- Nobody has a greater delay after a demand is withdrawn: SlotImproves returns true at every input, and its arguments read afterwards as before. Conditions: none. -/
theorem slotImproves_holds : Rows.SlotImprovesSaid := liftSlotImproves.over
#print axioms slotImproves_holds
end Go.Proofs.Ytfhcciepaangiaa
