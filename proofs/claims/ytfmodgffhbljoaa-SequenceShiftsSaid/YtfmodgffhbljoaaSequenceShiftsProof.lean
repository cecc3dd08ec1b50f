/- Later times of all arrivals make all landings later by the same number of seconds: SequenceShifts returns true at every input, and its arguments read afterwards as before. Conditions: none. -/
import Derived.Test.YtfmodgffhbljoaaX1E3
import Derived.Test.YtfmodgffhbljoaaSq5
import Derived.Test.YtfmodgffhbljoaaPi23
import Derived.WalkKit
import Derived.ProofKit
import Derived.OpenShut
import Derived.ShutString
import Derived.ChangeOld
import Derived.Below
import Derived.Lib.SmallJoins
namespace Go.Proofs.Ytfmodgffhbljoaa.liftSequenceShifts
open Go.Proofs.Ytfmodgffhbljoaa
open Go.ChangeShapes Go.WideShapes Go.ChangeAt Go.RowKit Go.Joins
open Go.ChangeMaps (open_string shut_string)
set_option linter.unusedVariables false

def fineI (z : Int) : Prop := -9223372036854775808 ≤ z ∧ z ≤ 9223372036854775807
def fineS (s : ByteArray) : Prop := s.size ≤ maxLen
def fineB (b : Bool) : Prop := True
def fineL {α : Type} (p : α → Prop) (l : List α) : Prop := l.length ≤ maxLen ∧ ∀ x ∈ l, p x
theorem reads_pair {W : World} {a b : Sh} {cs : List Value} (h : Reads W (.pair a b) cs) : ∃ xs ys, cs = xs ++ ys ∧ Reads W a xs ∧ Reads W b ys := by simpa only [Reads] using h
theorem reads_unit {W : World} {cs : List Value} (h : Reads W .unit cs) : cs = [] := by simpa only [Reads] using h
theorem reads_int {W : World} {cs : List Value} (h : Reads W .int cs) : ∃ n : Int, cs = [.int .i64 n] ∧ fineI n := by simp only [Reads] at h; exact h
theorem reads_str {W : World} {cs : List Value} (h : Reads W .str cs) : ∃ s : ByteArray, cs = [.string s] ∧ fineS s := by simp only [Reads] at h; exact h
theorem reads_bool {W : World} {cs : List Value} (h : Reads W .bool cs) : ∃ b : Bool, cs = [.bool b] ∧ fineB b := by
  simp only [Reads] at h
  obtain ⟨b, rfl⟩ := h
  exact ⟨b, rfl, trivial⟩
theorem reads_sl {W : World} {e : Sh} {cs : List Value} (h : Reads W (.sl e) cs) : ∃ a n c, cs = [.slice a n c] ∧ Reads W (.sl e) [.slice a n c] := by
  have h' := h
  simp only [Reads] at h'
  obtain ⟨a, n, c, rfl, -⟩ := h'
  exact ⟨a, n, c, rfl, h⟩
theorem okWide_arr {P : Program} {W : World} {r : Reach} {base : Nat} {t e : TypeId} {v : Value} {n : Nat} (ht : P.underlying t = some (.array n e)) (h : Value.okWide P W r base t v) : ∃ cs, v = .agg cs ∧ cs.size = P.cellsOf t := by
  simp only [Value.okWide, ht] at h
  obtain ⟨cs, h1, h2, _⟩ := h
  exact ⟨cs, h1, h2⟩
theorem agg_cells {v : Value} {cs : Array Value} {l : List Value} (hv : v = .agg cs) (h : v.cells.toList = l) : v = .agg l.toArray := by
  subst hv; simp [Value.cells] at h; rw [← h]
def fineTSequenceArrival (x : TSequenceArrival) : Prop := fineS x.Call ∧ fineI x.Wake ∧ fineI x.Time ∧ fineI x.Latest
theorem rd_lTSequenceArrival {W : World} {a : Option Addr} {n c : Nat} (h : Reads W (.sl (.pair .str (.pair .int (.pair .int (.pair .int .unit))))) [.slice a n c]) : ∃ l : List TSequenceArrival, VRel (cx0 W) (lstA TSequenceArrival.E l) (.slice a n c) ∧ fineL fineTSequenceArrival l :=
  reads_lst TSequenceArrival.E _ fineTSequenceArrival rfl (fun es _ h => by
    obtain ⟨ux0, wx0, rfl, hx0, qx0⟩ := reads_pair h
    obtain ⟨x0, rfl, fx0⟩ := reads_str hx0
    obtain ⟨ux1, wx1, rfl, hx1, qx1⟩ := reads_pair qx0
    obtain ⟨x1, rfl, fx1⟩ := reads_int hx1
    obtain ⟨ux2, wx2, rfl, hx2, qx2⟩ := reads_pair qx1
    obtain ⟨x2, rfl, fx2⟩ := reads_int hx2
    obtain ⟨ux3, wx3, rfl, hx3, qx3⟩ := reads_pair qx2
    obtain ⟨x3, rfl, fx3⟩ := reads_int hx3
    obtain rfl := reads_unit qx3
    exact ⟨⟨x0, x1, x2, x3⟩, (rels_cons rfl (rels_cons rfl (rels_cons rfl (rels_cons rfl .nil)))), ⟨fx0, fx1, fx2, fx3⟩⟩) h
theorem own : ownKnob Try.prog.godebug = none := by kernel_rfl
theorem laidOut : laidOutB Try.prog = true := by kernel_rfl
set_option maxRecDepth 100000 in
theorem lifted (os : Os) (started : os.Started) (H : Type) (enc : TypeId × Value → H) :
    ReturnsInHanded {} Try.checked os 9 .any (Rows.sequenceShiftsSpec.pre6 enc Try.prog Try.f9 Rows.sequenceShiftsRow.domain false) (Rows.sequenceShiftsSpec.post enc Try.prog Try.f9 false true false false) := by
  refine returnsInHanded_of_change (C := Try.checked) own started (by kernel_rfl) Try.func9
    (ChangeSpec.witness6 (enc := enc) (C := Try.checked) false ⟨#[], #[.slice none 0 0, .agg #[.int .i64 0, .int .i64 0, .int .i64 0, .int .i64 0, .int .i64 0, .int .i64 0, .int .i64 0, .int .i64 0, .int .i64 0, .int .i64 0, .int .i64 0, .int .i64 0, .int .i64 0, .int .i64 0, .int .i64 0, .int .i64 0], .int .i64 0, .int .i64 0], []⟩ 8 (by kernel_rfl) (by kernel_rfl) (by kernel_rfl) (by kernel_rfl)) ?_
  intro W base args ds gs before hval0 hW hcnd hsz
  have hval : ∀ (j : Nat) t v, Try.f9.params[j]? = some t → args[j]? = some v → Value.okWide Try.prog W .any base t v := hval0
  have hW' := hW
  obtain ⟨p, q, hA0, hV, rfl, hfz, hnd⟩ := hW
  have hA : DataW.TrodAll enc Try.prog W 0 (fun _ => true) true Try.f9.params.toList args.toList ds p := hA0
  rw [Try.params9] at hA hval
  obtain ⟨v0, vs0, d0, ds0, p0, q0, hargs, rfl, rfl, k0, r0⟩ := trodAll_cons hA
  obtain ⟨v1, vs1, d1, ds1, p1, q1, rfl, rfl, rfl, k1, r1⟩ := trodAll_cons r0
  obtain ⟨v2, vs2, d2, ds2, p2, q2, rfl, rfl, rfl, k2, r2⟩ := trodAll_cons r1
  obtain ⟨v3, vs3, d3, ds3, p3, q3, rfl, rfl, rfl, k3, r3⟩ := trodAll_cons r2
  obtain ⟨rfl, rfl, rfl⟩ := trodAll_nil r3
  obtain rfl : args = #[v0, v1, v2, v3] := by cases args; simp_all
  obtain ⟨rfl, rfl⟩ := trodVars_none hV
  have lt0 : ∀ x ∈ p0, x.block < W.heap.size := by obtain ⟨m, hm⟩ := k0; exact DataW.trod_lt m _ _ _ hm
  have o0 := hval 0 59 v0 rfl rfl
  have lt1 : ∀ x ∈ p1, x.block < W.heap.size := by obtain ⟨m, hm⟩ := k1; exact DataW.trod_lt m _ _ _ hm
  have o1 := hval 1 24 v1 rfl rfl
  have lt2 : ∀ x ∈ p2, x.block < W.heap.size := by obtain ⟨m, hm⟩ := k2; exact DataW.trod_lt m _ _ _ hm
  have o2 := hval 2 3 v2 rfl rfl
  have lt3 : ∀ x ∈ p3, x.block < W.heap.size := by obtain ⟨m, hm⟩ := k3; exact DataW.trod_lt m _ _ _ hm
  have o3 := hval 3 3 v3 rfl rfl
  obtain ⟨a0, n0, c0, rfl⟩ := okWide_slice Try.underlying59 o0
  obtain ⟨l0, rr0, f0⟩ := rd_lTSequenceArrival (reads_arg (.sl (.pair .str (.pair .int (.pair .int (.pair .int .unit))))) (by kernel_rfl) k0)
  obtain ⟨cs1, hcs1, -⟩ := okWide_arr Try.underlying24 o1
  have h1 := reads_arg (.pair (.pair .int (.pair .int (.pair .int (.pair .int .unit)))) (.pair (.pair .int (.pair .int (.pair .int (.pair .int .unit)))) (.pair (.pair .int (.pair .int (.pair .int (.pair .int .unit)))) (.pair (.pair .int (.pair .int (.pair .int (.pair .int .unit)))) .unit)))) (by kernel_rfl) k1
  generalize hg1 : v1.cells.toList = es1 at h1
  obtain ⟨ux10, wx10, rfl, hx10, qx10⟩ := reads_pair h1
  obtain ⟨ux100, wx100, rfl, hx100, qx100⟩ := reads_pair hx10
  obtain ⟨x100, rfl, fx100⟩ := reads_int hx100
  obtain ⟨ux101, wx101, rfl, hx101, qx101⟩ := reads_pair qx100
  obtain ⟨x101, rfl, fx101⟩ := reads_int hx101
  obtain ⟨ux102, wx102, rfl, hx102, qx102⟩ := reads_pair qx101
  obtain ⟨x102, rfl, fx102⟩ := reads_int hx102
  obtain ⟨ux103, wx103, rfl, hx103, qx103⟩ := reads_pair qx102
  obtain ⟨x103, rfl, fx103⟩ := reads_int hx103
  obtain rfl := reads_unit qx103
  obtain ⟨ux11, wx11, rfl, hx11, qx11⟩ := reads_pair qx10
  obtain ⟨ux110, wx110, rfl, hx110, qx110⟩ := reads_pair hx11
  obtain ⟨x110, rfl, fx110⟩ := reads_int hx110
  obtain ⟨ux111, wx111, rfl, hx111, qx111⟩ := reads_pair qx110
  obtain ⟨x111, rfl, fx111⟩ := reads_int hx111
  obtain ⟨ux112, wx112, rfl, hx112, qx112⟩ := reads_pair qx111
  obtain ⟨x112, rfl, fx112⟩ := reads_int hx112
  obtain ⟨ux113, wx113, rfl, hx113, qx113⟩ := reads_pair qx112
  obtain ⟨x113, rfl, fx113⟩ := reads_int hx113
  obtain rfl := reads_unit qx113
  obtain ⟨ux12, wx12, rfl, hx12, qx12⟩ := reads_pair qx11
  obtain ⟨ux120, wx120, rfl, hx120, qx120⟩ := reads_pair hx12
  obtain ⟨x120, rfl, fx120⟩ := reads_int hx120
  obtain ⟨ux121, wx121, rfl, hx121, qx121⟩ := reads_pair qx120
  obtain ⟨x121, rfl, fx121⟩ := reads_int hx121
  obtain ⟨ux122, wx122, rfl, hx122, qx122⟩ := reads_pair qx121
  obtain ⟨x122, rfl, fx122⟩ := reads_int hx122
  obtain ⟨ux123, wx123, rfl, hx123, qx123⟩ := reads_pair qx122
  obtain ⟨x123, rfl, fx123⟩ := reads_int hx123
  obtain rfl := reads_unit qx123
  obtain ⟨ux13, wx13, rfl, hx13, qx13⟩ := reads_pair qx12
  obtain ⟨ux130, wx130, rfl, hx130, qx130⟩ := reads_pair hx13
  obtain ⟨x130, rfl, fx130⟩ := reads_int hx130
  obtain ⟨ux131, wx131, rfl, hx131, qx131⟩ := reads_pair qx130
  obtain ⟨x131, rfl, fx131⟩ := reads_int hx131
  obtain ⟨ux132, wx132, rfl, hx132, qx132⟩ := reads_pair qx131
  obtain ⟨x132, rfl, fx132⟩ := reads_int hx132
  obtain ⟨ux133, wx133, rfl, hx133, qx133⟩ := reads_pair qx132
  obtain ⟨x133, rfl, fx133⟩ := reads_int hx133
  obtain rfl := reads_unit qx133
  obtain rfl := reads_unit qx13
  obtain rfl := agg_cells hcs1 hg1
  obtain ⟨l2, rfl, -, -, f2⟩ := open_int Try.underlying3 o2 k2
  obtain ⟨l3, rfl, -, -, f3⟩ := open_int Try.underlying3 o3 k3
  clear hA0 hval0
  refine (calls_of_says (sg9 (shifts_law 301 (by omega) l0 ⟨x100, x101, x102, x103, x110, x111, x112, x113, x120, x121, x122, x123, x130, x131, x132, x133⟩ l2 l3)) glob_none (.cons rr0 (.cons (.agg (rels_cons rfl (rels_cons rfl (rels_cons rfl (rels_cons rfl (rels_cons rfl (rels_cons rfl (rels_cons rfl (rels_cons rfl (rels_cons rfl (rels_cons rfl (rels_cons rfl (rels_cons rfl (rels_cons rfl (rels_cons rfl (rels_cons rfl (rels_cons rfl .nil))))))))))))))))) (rels_cons rfl (rels_cons rfl .nil))))).mono fun e W' ⟨he, bel⟩ => ?_
  subst he
  exact ⟨_, rfl, _, _, _, [], _, [], hW', trodAll_mk1 (shut_bool Try.underlying4 _), (trodAll_cons_mk (Below.trod laidOut (by kernel_rfl) (of_decide_eq_true (by kernel_rfl)) k0 bel lt0) (trodAll_cons_mk (Below.trod laidOut (by kernel_rfl) (of_decide_eq_true (by kernel_rfl)) k1 bel lt1) (trodAll_cons_mk (Below.trod laidOut (by kernel_rfl) (of_decide_eq_true (by kernel_rfl)) k2 bel lt2) (trodAll_cons_mk (Below.trod laidOut (by kernel_rfl) (of_decide_eq_true (by kernel_rfl)) k3 bel lt3) trodAll_mk0)))), rfl, bel.frame _, fun h => by cases h⟩

theorem over : Rows.sequenceShiftsRow.holds Try.pinned (OpenSpec.ofChange Rows.sequenceShiftsSpec) :=
  OpenClaim.holds_of_wide 9 Try.f9 rfl rfl rfl rfl rfl rfl rfl ⟨rfl, rfl, rfl, rfl, rfl⟩ rfl rfl rfl rfl rfl (by kernel_rfl) Try.func9 (by kernel_rfl)
    (of_decide_eq_true (by kernel_rfl)) (by unfold Func.isWrapper; first | (rw [if_pos (by decide +kernel)]; kernel_rfl) | (rw [if_neg (by decide +kernel)]; exact ⟨rfl, rfl⟩))
    (fun os started H enc _ => lifted os started H enc)
end Go.Proofs.Ytfmodgffhbljoaa.liftSequenceShifts

namespace Go.Proofs.Ytfmodgffhbljoaa
/-- Later times of all arrivals make all landings later by the same number of seconds: SequenceShifts returns true at every input, and its arguments read afterwards as before. Conditions: none. -/
theorem sequenceShifts_holds : Rows.SequenceShiftsSaid := liftSequenceShifts.over
#print axioms sequenceShifts_holds
end Go.Proofs.Ytfmodgffhbljoaa
