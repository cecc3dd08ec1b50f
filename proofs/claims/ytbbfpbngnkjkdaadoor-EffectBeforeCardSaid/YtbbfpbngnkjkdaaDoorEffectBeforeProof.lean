/- Before the time of a clearance nothing changes, up to rounding: EffectBefore returns true at every input, and its arguments read afterwards as before. Conditions: none. -/
import Derived.Test.YtbbfpbngnkjkdaaDoorX1E8
import Derived.Test.YtbbfpbngnkjkdaaDoorEba
import Derived.Lay
import Derived.Test.YtbbfpbngnkjkdaaDoorEbG
import Derived.LaidMore
import Derived.Stop.Joined
import Derived.SevenTiedAt
import Derived.Test.YtbbfpbngnkjkdaaDoorCards
import Derived.Test.YtbbfpbngnkjkdaaDoorTie
import Derived.Test.YtbbfpbngnkjkdaaDoorPi23
import Derived.WalkKit
import Derived.ProofKit
import Derived.OpenShut
import Derived.ShutString
import Derived.ChangeOld
import Derived.Below
import Derived.Lib.SmallJoins
namespace Go.Proofs.YtbbfpbngnkjkdaaDoor.liftEffectBefore
open Go.Proofs.YtbbfpbngnkjkdaaDoor
open Go.ChangeShapes Go.WideShapes Go.ChangeAt Go.RowKit Go.Joins
open Go.ChangeMaps (open_string shut_string)
set_option linter.unusedVariables false

def fineI (z : Int) : Prop := -9223372036854775808 ≤ z ∧ z ≤ 9223372036854775807
def fineS (s : ByteArray) : Prop := s.size ≤ maxLen
def fineB (b : Bool) : Prop := True
def fineL {α : Type} (p : α → Prop) (l : List α) : Prop := l.length ≤ maxLen ∧ ∀ x ∈ l, p x
theorem reads_pair {W : World} {a b : Sh} {cs : List Value} (h : Reads W (.pair a b) cs) : ∃ xs ys, cs = xs ++ ys ∧ Reads W a xs ∧ Reads W b ys := by simpa only [Reads] using h
theorem reads_unit {W : World} {cs : List Value} (h : Reads W .unit cs) : cs = [] := by simpa only [Reads] using h
theorem reads_int {W : World} {cs : List Value} (h : Reads W .int cs) : ∃ n : Int, cs = [.int .i64 n] ∧ fineI n := by simp only [Reads] at h; exact h
theorem reads_str {W : World} {cs : List Value} (h : Reads W .str cs) : ∃ s : ByteArray, cs = [.string s] ∧ fineS s := by simp only [Reads] at h; exact h
theorem agg_cells {v : Value} {cs : Array Value} {l : List Value} (hv : v = .agg cs) (h : v.cells.toList = l) : v = .agg l.toArray := by
  subst hv; simp [Value.cells] at h; rw [← h]
def fineTTubeNode (x : TTubeNode) : Prop := fineI x.Node_Time ∧ fineI x.Node_At_X ∧ fineI x.Node_At_Y ∧ fineI x.Node_Height ∧ fineI x.Radius ∧ fineI x.Band
theorem rd_lTTubeNode {W : World} {a : Option Addr} {n c : Nat} (h : Reads W (.sl (.pair (.pair .int (.pair (.pair .int (.pair .int .unit)) (.pair .int .unit))) (.pair .int (.pair .int .unit)))) [.slice a n c]) : ∃ l : List TTubeNode, VRel (cx0 W) (lstA TTubeNode.E l) (.slice a n c) ∧ fineL fineTTubeNode l :=
  reads_lst TTubeNode.E _ fineTTubeNode rfl (fun es _ h => by
    obtain ⟨ux0, wx0, rfl, hx0, qx0⟩ := reads_pair h
    obtain ⟨ux00, wx00, rfl, hx00, qx00⟩ := reads_pair hx0
    obtain ⟨x00, rfl, fx00⟩ := reads_int hx00
    obtain ⟨ux01, wx01, rfl, hx01, qx01⟩ := reads_pair qx00
    obtain ⟨ux010, wx010, rfl, hx010, qx010⟩ := reads_pair hx01
    obtain ⟨x010, rfl, fx010⟩ := reads_int hx010
    obtain ⟨ux011, wx011, rfl, hx011, qx011⟩ := reads_pair qx010
    obtain ⟨x011, rfl, fx011⟩ := reads_int hx011
    obtain rfl := reads_unit qx011
    obtain ⟨ux02, wx02, rfl, hx02, qx02⟩ := reads_pair qx01
    obtain ⟨x02, rfl, fx02⟩ := reads_int hx02
    obtain rfl := reads_unit qx02
    obtain ⟨ux1, wx1, rfl, hx1, qx1⟩ := reads_pair qx0
    obtain ⟨x1, rfl, fx1⟩ := reads_int hx1
    obtain ⟨ux2, wx2, rfl, hx2, qx2⟩ := reads_pair qx1
    obtain ⟨x2, rfl, fx2⟩ := reads_int hx2
    obtain rfl := reads_unit qx2
    exact ⟨⟨x00, x010, x011, x02, x1, x2⟩, (rels_cons rfl (rels_cons rfl (rels_cons rfl (rels_cons rfl (rels_cons rfl (rels_cons rfl .nil)))))), ⟨fx00, fx010, fx011, fx02, fx1, fx2⟩⟩) h
def fineTClearance (x : TClearance) : Prop := fineS x.Call ∧ fineI x.Kind ∧ fineI x.Value ∧ fineS x.Fix
def fineTKind (x : TKind) : Prop := fineS x.Name ∧ fineI x.Wake ∧ fineI x.Ceiling ∧ fineI x.Climb ∧ fineI x.Descent ∧ fineI x.Slow ∧ fineI x.Fast
def fineTP (x : TP) : Prop := fineI x.X ∧ fineI x.Y
theorem own : ownKnob Tryd.prog.godebug = none := by kernel_rfl
theorem laidOut : laidOutB Tryd.prog = true := by kernel_rfl
set_option maxRecDepth 100000
theorem door_met (os : Os) (args : Array Value) : laidMetH Tryd.prog laidR ((World.laidAll Tryd.prog os laidR).forCall (fun _ _ => 0) ⟨#[], args, []⟩).memory := by
  rw [MakeChecks.laidMetH_plain _ _ _ (by kernel_rfl)]
  exact laidMet_laidAll _ (by kernel_rfl) (by kernel_rfl)
theorem lifted (os : Os) (started : os.Started) (H : Type) (enc : TypeId × Value → H) :
    ReturnsInHanded {} Tryd.checked os 3 .any (fun w args => (Rows.effectBeforeSpec.pre enc Tryd.prog Tryd.f3 [] false w args ∧ laidMetH Tryd.prog laidR w) ∧ sizedMet enc Tryd.prog Tryd.f3 (OpenSpec.ofChange Rows.effectBeforeSpec) false w args) (Rows.effectBeforeSpec.post enc Tryd.prog Tryd.f3 false true false false) := by
  refine returnsInHanded_of_change_and (C := Tryd.checked) (X := fun w _ => laidMetH Tryd.prog laidR w) (fun _ _ _ hh h => h.of_heap hh) own started (by kernel_rfl) Tryd.func3
    (ChangeSpec.witness_shaped (enc := enc) (C := Tryd.checked) (os := os) (X := fun w _ => laidMetH Tryd.prog laidR w) false (World.laidAll Tryd.prog os laidR) #[.slice none 0 0, .agg #[.string ⟨#[]⟩, .int .i64 0, .int .i64 0, .string ⟨#[]⟩], .int .i64 0, .agg #[.string ⟨#[]⟩, .int .i64 0, .int .i64 0, .int .i64 0, .int .i64 0, .int .i64 0, .int .i64 0], .agg #[.int .i64 0, .int .i64 0]] 8 (World.laidAll_os _ _ _) (World.shaped_of_ZipB (by kernel_rfl) (by kernel_rfl)) (by kernel_rfl) (by kernel_rfl) (by kernel_rfl) (door_met os _)) ?_
  intro W base args ds gs before hval0 hW _ _ hL _
  have hval : ∀ (j : Nat) t v, Tryd.f3.params[j]? = some t → args[j]? = some v → Value.okWide Tryd.prog W .any base t v := hval0
  have hW' := hW
  obtain ⟨p, q, hA0, hV, rfl, hfz, hnd⟩ := hW
  have hA : DataW.TrodAll enc Tryd.prog W 0 (fun _ => true) true Tryd.f3.params.toList args.toList ds p := hA0
  rw [Tryd.params3] at hA hval
  obtain ⟨v0, vs0, d0, ds0, p0, q0, hargs, rfl, rfl, k0, r0⟩ := trodAll_cons hA
  obtain ⟨v1, vs1, d1, ds1, p1, q1, rfl, rfl, rfl, k1, r1⟩ := trodAll_cons r0
  obtain ⟨v2, vs2, d2, ds2, p2, q2, rfl, rfl, rfl, k2, r2⟩ := trodAll_cons r1
  obtain ⟨v3, vs3, d3, ds3, p3, q3, rfl, rfl, rfl, k3, r3⟩ := trodAll_cons r2
  obtain ⟨v4, vs4, d4, ds4, p4, q4, rfl, rfl, rfl, k4, r4⟩ := trodAll_cons r3
  obtain ⟨rfl, rfl, rfl⟩ := trodAll_nil r4
  obtain rfl : args = #[v0, v1, v2, v3, v4] := by cases args; simp_all
  obtain ⟨rfl, rfl⟩ := trodVars_none hV
  have lt0 : ∀ x ∈ p0, x.block < W.heap.size := by obtain ⟨m, hm⟩ := k0; exact DataW.trod_lt m _ _ _ hm
  have o0 := hval 0 23 v0 rfl rfl
  have lt1 : ∀ x ∈ p1, x.block < W.heap.size := by obtain ⟨m, hm⟩ := k1; exact DataW.trod_lt m _ _ _ hm
  have o1 := hval 1 25 v1 rfl rfl
  have lt2 : ∀ x ∈ p2, x.block < W.heap.size := by obtain ⟨m, hm⟩ := k2; exact DataW.trod_lt m _ _ _ hm
  have o2 := hval 2 3 v2 rfl rfl
  have lt3 : ∀ x ∈ p3, x.block < W.heap.size := by obtain ⟨m, hm⟩ := k3; exact DataW.trod_lt m _ _ _ hm
  have o3 := hval 3 27 v3 rfl rfl
  have lt4 : ∀ x ∈ p4, x.block < W.heap.size := by obtain ⟨m, hm⟩ := k4; exact DataW.trod_lt m _ _ _ hm
  have o4 := hval 4 29 v4 rfl rfl
  obtain ⟨a0, n0, c0, rfl⟩ := okWide_slice Tryd.underlying23 o0
  obtain ⟨l0, rr0, f0⟩ := rd_lTTubeNode (reads_arg (.sl (.pair (.pair .int (.pair (.pair .int (.pair .int .unit)) (.pair .int .unit))) (.pair .int (.pair .int .unit)))) (by kernel_rfl) k0)
  obtain ⟨cs1, hcs1, -⟩ := okWide_struct Tryd.underlying25 o1
  have h1 := reads_arg (.pair .str (.pair .int (.pair .int (.pair .str .unit)))) (by kernel_rfl) k1
  generalize hg1 : v1.cells.toList = es1 at h1
  obtain ⟨ux10, wx10, rfl, hx10, qx10⟩ := reads_pair h1
  obtain ⟨x10, rfl, fx10⟩ := reads_str hx10
  obtain ⟨ux11, wx11, rfl, hx11, qx11⟩ := reads_pair qx10
  obtain ⟨x11, rfl, fx11⟩ := reads_int hx11
  obtain ⟨ux12, wx12, rfl, hx12, qx12⟩ := reads_pair qx11
  obtain ⟨x12, rfl, fx12⟩ := reads_int hx12
  obtain ⟨ux13, wx13, rfl, hx13, qx13⟩ := reads_pair qx12
  obtain ⟨x13, rfl, fx13⟩ := reads_str hx13
  obtain rfl := reads_unit qx13
  obtain rfl := agg_cells hcs1 hg1
  obtain ⟨l2, rfl, -, -, f2⟩ := open_int Tryd.underlying3 o2 k2
  obtain ⟨cs3, hcs3, -⟩ := okWide_struct Tryd.underlying27 o3
  have h3 := reads_arg (.pair .str (.pair .int (.pair .int (.pair .int (.pair .int (.pair .int (.pair .int .unit))))))) (by kernel_rfl) k3
  generalize hg3 : v3.cells.toList = es3 at h3
  obtain ⟨ux30, wx30, rfl, hx30, qx30⟩ := reads_pair h3
  obtain ⟨x30, rfl, fx30⟩ := reads_str hx30
  obtain ⟨ux31, wx31, rfl, hx31, qx31⟩ := reads_pair qx30
  obtain ⟨x31, rfl, fx31⟩ := reads_int hx31
  obtain ⟨ux32, wx32, rfl, hx32, qx32⟩ := reads_pair qx31
  obtain ⟨x32, rfl, fx32⟩ := reads_int hx32
  obtain ⟨ux33, wx33, rfl, hx33, qx33⟩ := reads_pair qx32
  obtain ⟨x33, rfl, fx33⟩ := reads_int hx33
  obtain ⟨ux34, wx34, rfl, hx34, qx34⟩ := reads_pair qx33
  obtain ⟨x34, rfl, fx34⟩ := reads_int hx34
  obtain ⟨ux35, wx35, rfl, hx35, qx35⟩ := reads_pair qx34
  obtain ⟨x35, rfl, fx35⟩ := reads_int hx35
  obtain ⟨ux36, wx36, rfl, hx36, qx36⟩ := reads_pair qx35
  obtain ⟨x36, rfl, fx36⟩ := reads_int hx36
  obtain rfl := reads_unit qx36
  obtain rfl := agg_cells hcs3 hg3
  obtain ⟨cs4, hcs4, -⟩ := okWide_struct Tryd.underlying29 o4
  have h4 := reads_arg (.pair .int (.pair .int .unit)) (by kernel_rfl) k4
  generalize hg4 : v4.cells.toList = es4 at h4
  obtain ⟨ux40, wx40, rfl, hx40, qx40⟩ := reads_pair h4
  obtain ⟨x40, rfl, fx40⟩ := reads_int hx40
  obtain ⟨ux41, wx41, rfl, hx41, qx41⟩ := reads_pair qx40
  obtain ⟨x41, rfl, fx41⟩ := reads_int hx41
  obtain rfl := reads_unit qx41
  obtain rfl := agg_cells hcs4 hg4
  clear hA0 hval0
  refine (calls_of_says (sg3 (before_law l0 ⟨x10, x11, x12, x13⟩ l2 ⟨x30, x31, x32, x33, x34, x35, x36⟩ ⟨x40, x41⟩)) (glob_ok hL) (.cons rr0 (.cons (.agg (rels_cons rfl (rels_cons rfl (rels_cons rfl (rels_cons rfl .nil))))) (rels_cons rfl (.cons (.agg (rels_cons rfl (rels_cons rfl (rels_cons rfl (rels_cons rfl (rels_cons rfl (rels_cons rfl (rels_cons rfl .nil)))))))) (.cons (.agg (rels_cons rfl (rels_cons rfl .nil))) .nil)))))).mono fun e W' ⟨he, bel⟩ => ?_
  subst he
  exact ⟨_, rfl, _, _, _, [], _, [], hW', trodAll_mk1 (shut_bool Tryd.underlying4 _), (trodAll_cons_mk (Below.trod laidOut (by kernel_rfl) (of_decide_eq_true (by kernel_rfl)) k0 bel lt0) (trodAll_cons_mk (Below.trod laidOut (by kernel_rfl) (of_decide_eq_true (by kernel_rfl)) k1 bel lt1) (trodAll_cons_mk (Below.trod laidOut (by kernel_rfl) (of_decide_eq_true (by kernel_rfl)) k2 bel lt2) (trodAll_cons_mk (Below.trod laidOut (by kernel_rfl) (of_decide_eq_true (by kernel_rfl)) k3 bel lt3) (trodAll_cons_mk (Below.trod laidOut (by kernel_rfl) (of_decide_eq_true (by kernel_rfl)) k4 bel lt4) trodAll_mk0))))), rfl, bel.frame _, fun h => by cases h⟩

theorem over : Rows.effectBeforeRow.holds Tryd.pinned (OpenSpec.ofChange Rows.effectBeforeSpec) :=
  OpenClaim.holds_of_wide 3 Tryd.f3 rfl rfl rfl rfl rfl rfl rfl ⟨rfl, rfl, rfl, rfl, rfl⟩ rfl rfl rfl rfl rfl (by kernel_rfl) Tryd.func3 (by kernel_rfl)
    (of_decide_eq_true (by kernel_rfl)) (by unfold Func.isWrapper; first | (rw [if_pos (by decide +kernel)]; kernel_rfl) | (rw [if_neg (by decide +kernel)]; exact ⟨rfl, rfl⟩))
    (fun os started H enc _ => lifted os started H enc)
end Go.Proofs.YtbbfpbngnkjkdaaDoor.liftEffectBefore

namespace Go.Proofs.YtbbfpbngnkjkdaaDoor
theorem effectBefore_card : Claim7.holds Tryd.pinned (.plain (OpenSpec.ofChange Rows.effectBeforeSpec)) Rows.effectBeforeCard :=
  Claim7.holds_tied_plain_at .later [] [.data, .data, .data, .widerDeep, .data] true (true, "9e2beb9a6b3de8fb133b4900ce432a177f5f2db90a1b877da3d6b8089fe12111") false
    liftEffectBefore.over (fun _ h => by cases h) (by kernel_rfl) (fun _ h => by cases h) effectBefore_row_tie rfl ⟨rfl, rfl⟩ (by kernel_rfl) rfl
    (fun f fn hf hfn => by
      obtain rfl : f = 3 := Option.some.inj ((show Tryd.prog.funcNamed "skyway/skywaykeep3.EffectBefore" = some 3 by kernel_rfl).symm.trans hf) |>.symm
      obtain rfl : fn = Tryd.f3 := (Option.some.inj (Tryd.func3.symm.trans hfn)).symm
      exact ⟨by kernel_rfl, fun j t ht => by
        rw [Tryd.params3] at ht
        have hm : t ∈ ([23, 25, 3, 27, 29] : List Nat) := by simpa using Array.mem_of_getElem? ht
        have hall : (([23, 25, 3, 27, 29] : List Nat).all fun u => !Tryd.prog.wantsStandIn u) = true := by kernel_rfl
        exact (show Tryd.prog.wantsStandIn t = false by simpa using List.all_eq_true.1 hall t hm)⟩)
    (by kernel_rfl)
/-- Before the time of a clearance nothing changes, up to rounding: EffectBefore returns true at every input, and its arguments read afterwards as before. Conditions: none. -/
theorem effectBefore_holds : Rows.EffectBeforeCardSaid := effectBefore_card
#print axioms effectBefore_holds
end Go.Proofs.YtbbfpbngnkjkdaaDoor
