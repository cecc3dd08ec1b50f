/- All tubes are free exactly if there is no clash: ResolveAll returns true at every input, and its arguments read afterwards as before. Conditions: none. -/
import Derived.Test.YteaimbiojpjneaaGreatDoorX1E3
import Derived.Test.YteaimbiojpjneaaGreatDoorRv2
import Derived.Lay
import Derived.Test.YteaimbiojpjneaaGreatDoorRsG
import Derived.LaidMore
import Derived.Stop.Joined
import Derived.SevenTiedAt
import Derived.Test.YteaimbiojpjneaaGreatDoorCards
import Derived.Test.YteaimbiojpjneaaGreatDoorTie
import Derived.Test.YteaimbiojpjneaaGreatDoorPi23
import Derived.WalkKit
import Derived.ProofKit
import Derived.OpenShut
import Derived.ShutString
import Derived.ChangeOld
import Derived.Below
import Derived.Lib.SmallJoins
namespace Go.Proofs.YteaimbiojpjneaaGreatDoor.liftResolveAll
open Go.Proofs.YteaimbiojpjneaaGreatDoor
open Go.ChangeShapes Go.WideShapes Go.ChangeAt Go.RowKit Go.Joins
open Go.ChangeMaps (open_string shut_string)
set_option linter.unusedVariables false

def fineI (z : Int) : Prop := -9223372036854775808 ≤ z ∧ z ≤ 9223372036854775807
def fineS (s : ByteArray) : Prop := s.size ≤ maxLen
def fineB (b : Bool) : Prop := True
def fineL {α : Type} (p : α → Prop) (l : List α) : Prop := l.length ≤ maxLen ∧ ∀ x ∈ l, p x
theorem reads_pair {W : World} {a b : Sh} {cs : List Value} (h : Reads W (.pair a b) cs) : ∃ xs ys, cs = xs ++ ys ∧ Reads W a xs ∧ Reads W b ys := by simpa only [Reads] using h
theorem reads_unit {W : World} {cs : List Value} (h : Reads W .unit cs) : cs = [] := by simpa only [Reads] using h
theorem reads_int {W : World} {cs : List Value} (h : Reads W .int cs) : ∃ n : Int, cs = [.int .i64 n] ∧ fineI n := by simp only [Reads] at h; exact h
theorem reads_sl {W : World} {e : Sh} {cs : List Value} (h : Reads W (.sl e) cs) : ∃ a n c, cs = [.slice a n c] ∧ Reads W (.sl e) [.slice a n c] := by
  have h' := h
  simp only [Reads] at h'
  obtain ⟨a, n, c, rfl, -⟩ := h'
  exact ⟨a, n, c, rfl, h⟩
theorem agg_cells {v : Value} {cs : Array Value} {l : List Value} (hv : v = .agg cs) (h : v.cells.toList = l) : v = .agg l.toArray := by
  subst hv; simp [Value.cells] at h; rw [← h]
def fineTTubeNode (x : TTubeNode) : Prop := fineI x.Node_Time ∧ fineI x.Node_At_X ∧ fineI x.Node_At_Y ∧ fineI x.Node_Height ∧ fineI x.Radius ∧ fineI x.Band
theorem rd_lTTubeNode {W : World} {a : Option Addr} {n c : Nat} (h : Reads W (.sl (.pair (.pair .int (.pair (.pair .int (.pair .int .unit)) (.pair .int .unit))) (.pair .int (.pair .int .unit)))) [.slice a n c]) : ∃ l : List TTubeNode, VRel (cx0 W) (lstA TTubeNode.E l) (.slice a n c) ∧ fineL fineTTubeNode l :=
  reads_lst TTubeNode.E _ fineTTubeNode rfl (fun es _ h => by
    obtain ⟨ux0, wx0, rfl, hx0, qx0⟩ := reads_pair h
    obtain ⟨ux00, wx00, rfl, hx00, qx00⟩ := reads_pair hx0
    obtain ⟨x00, rfl, fx00⟩ := reads_int hx00
    obtain ⟨ux01, wx01, rfl, hx01, qx01⟩ := reads_pair qx00
    obtain ⟨ux010, wx010, rfl, hx010, qx010⟩ := reads_pair hx01
    obtain ⟨x010, rfl, fx010⟩ := reads_int hx010
    obtain ⟨ux011, wx011, rfl, hx011, qx011⟩ := reads_pair qx010
    obtain ⟨x011, rfl, fx011⟩ := reads_int hx011
    obtain rfl := reads_unit qx011
    obtain ⟨ux02, wx02, rfl, hx02, qx02⟩ := reads_pair qx01
    obtain ⟨x02, rfl, fx02⟩ := reads_int hx02
    obtain rfl := reads_unit qx02
    obtain ⟨ux1, wx1, rfl, hx1, qx1⟩ := reads_pair qx0
    obtain ⟨x1, rfl, fx1⟩ := reads_int hx1
    obtain ⟨ux2, wx2, rfl, hx2, qx2⟩ := reads_pair qx1
    obtain ⟨x2, rfl, fx2⟩ := reads_int hx2
    obtain rfl := reads_unit qx2
    exact ⟨⟨x00, x010, x011, x02, x1, x2⟩, (rels_cons rfl (rels_cons rfl (rels_cons rfl (rels_cons rfl (rels_cons rfl (rels_cons rfl .nil)))))), ⟨fx00, fx010, fx011, fx02, fx1, fx2⟩⟩) h
theorem rd_llTTubeNode {W : World} {a : Option Addr} {n c : Nat} (h : Reads W (.sl (.sl (.pair (.pair .int (.pair (.pair .int (.pair .int .unit)) (.pair .int .unit))) (.pair .int (.pair .int .unit))))) [.slice a n c]) : ∃ l : List (List TTubeNode), VRel (cx0 W) (lstA (lstE TTubeNode.E) l) (.slice a n c) ∧ fineL (fineL fineTTubeNode) l :=
  reads_lst (lstE TTubeNode.E) _ (fineL fineTTubeNode) rfl (fun es _ h => by
    obtain ⟨ax, nx, cx, rfl, h⟩ := reads_sl h
    obtain ⟨x, rx, fx⟩ := rd_lTTubeNode h
    exact ⟨x, (.cons rx .nil), fx⟩) h
def fineTSep (x : TSep) : Prop := fineI x.Lateral ∧ fineI x.Vertical
theorem own : ownKnob Tryz.prog.godebug = none := by kernel_rfl
theorem laidOut : laidOutB Tryz.prog = true := by kernel_rfl
set_option maxRecDepth 100000
theorem door_met (os : Os) (args : Array Value) : laidMetH Tryz.prog laidR ((World.laidAll Tryz.prog os laidR).forCall (fun _ _ => 0) ⟨#[], args, []⟩).memory := by
  rw [MakeChecks.laidMetH_plain _ _ _ (by kernel_rfl)]
  exact laidMet_laidAll _ (by kernel_rfl) (by kernel_rfl)
theorem lifted (os : Os) (started : os.Started) (H : Type) (enc : TypeId × Value → H) :
    ReturnsInHanded {} Tryz.checked os 5 .any (fun w args => (Rows.resolveAllSpec.pre enc Tryz.prog Tryz.f5 [] false w args ∧ laidMetH Tryz.prog laidR w) ∧ sizedMet enc Tryz.prog Tryz.f5 (OpenSpec.ofChange Rows.resolveAllSpec) false w args) (Rows.resolveAllSpec.post enc Tryz.prog Tryz.f5 false true false false) := by
  refine returnsInHanded_of_change_and (C := Tryz.checked) (X := fun w _ => laidMetH Tryz.prog laidR w) (fun _ _ _ hh h => h.of_heap hh) own started (by kernel_rfl) Tryz.func5
    (ChangeSpec.witness_shaped (enc := enc) (C := Tryz.checked) (os := os) (X := fun w _ => laidMetH Tryz.prog laidR w) false (World.laidAll Tryz.prog os laidR) #[.slice none 0 0, .agg #[.int .i64 0, .int .i64 0]] 8 (World.laidAll_os _ _ _) (World.shaped_of_ZipB (by kernel_rfl) (by kernel_rfl)) (by kernel_rfl) (by kernel_rfl) (by kernel_rfl) (door_met os _)) ?_
  intro W base args ds gs before hval0 hW _ _ hL _
  have hval : ∀ (j : Nat) t v, Tryz.f5.params[j]? = some t → args[j]? = some v → Value.okWide Tryz.prog W .any base t v := hval0
  have hW' := hW
  obtain ⟨p, q, hA0, hV, rfl, hfz, hnd⟩ := hW
  have hA : DataW.TrodAll enc Tryz.prog W 0 (fun _ => true) true Tryz.f5.params.toList args.toList ds p := hA0
  rw [Tryz.params5] at hA hval
  obtain ⟨v0, vs0, d0, ds0, p0, q0, hargs, rfl, rfl, k0, r0⟩ := trodAll_cons hA
  obtain ⟨v1, vs1, d1, ds1, p1, q1, rfl, rfl, rfl, k1, r1⟩ := trodAll_cons r0
  obtain ⟨rfl, rfl, rfl⟩ := trodAll_nil r1
  obtain rfl : args = #[v0, v1] := by cases args; simp_all
  obtain ⟨rfl, rfl⟩ := trodVars_none hV
  have lt0 : ∀ x ∈ p0, x.block < W.heap.size := by obtain ⟨m, hm⟩ := k0; exact DataW.trod_lt m _ _ _ hm
  have o0 := hval 0 36 v0 rfl rfl
  have lt1 : ∀ x ∈ p1, x.block < W.heap.size := by obtain ⟨m, hm⟩ := k1; exact DataW.trod_lt m _ _ _ hm
  have o1 := hval 1 38 v1 rfl rfl
  obtain ⟨a0, n0, c0, rfl⟩ := okWide_slice Tryz.underlying36 o0
  obtain ⟨l0, rr0, f0⟩ := rd_llTTubeNode (reads_arg (.sl (.sl (.pair (.pair .int (.pair (.pair .int (.pair .int .unit)) (.pair .int .unit))) (.pair .int (.pair .int .unit))))) (by kernel_rfl) k0)
  obtain ⟨cs1, hcs1, -⟩ := okWide_struct Tryz.underlying38 o1
  have h1 := reads_arg (.pair .int (.pair .int .unit)) (by kernel_rfl) k1
  generalize hg1 : v1.cells.toList = es1 at h1
  obtain ⟨ux10, wx10, rfl, hx10, qx10⟩ := reads_pair h1
  obtain ⟨x10, rfl, fx10⟩ := reads_int hx10
  obtain ⟨ux11, wx11, rfl, hx11, qx11⟩ := reads_pair qx10
  obtain ⟨x11, rfl, fx11⟩ := reads_int hx11
  obtain rfl := reads_unit qx11
  obtain rfl := agg_cells hcs1 hg1
  clear hA0 hval0
  refine (calls_of_says (sg5 (resolve_law 10000000000 (by unfold big; decide) l0 ⟨x10, x11⟩)) (glob_ok hL) (.cons rr0 (.cons (.agg (rels_cons rfl (rels_cons rfl .nil))) .nil))).mono fun e W' ⟨he, bel⟩ => ?_
  subst he
  exact ⟨_, rfl, _, _, _, [], _, [], hW', trodAll_mk1 (shut_bool Tryz.underlying4 _), (trodAll_cons_mk (Below.trod laidOut (by kernel_rfl) (of_decide_eq_true (by kernel_rfl)) k0 bel lt0) (trodAll_cons_mk (Below.trod laidOut (by kernel_rfl) (of_decide_eq_true (by kernel_rfl)) k1 bel lt1) trodAll_mk0)), rfl, bel.frame _, fun h => by cases h⟩

theorem over : Rows.resolveAllRow.holds Tryz.pinned (OpenSpec.ofChange Rows.resolveAllSpec) :=
  OpenClaim.holds_of_wide 5 Tryz.f5 rfl rfl rfl rfl rfl rfl rfl ⟨rfl, rfl, rfl, rfl, rfl⟩ rfl rfl rfl rfl rfl (by kernel_rfl) Tryz.func5 (by kernel_rfl)
    (of_decide_eq_true (by kernel_rfl)) (by unfold Func.isWrapper; first | (rw [if_pos (by decide +kernel)]; kernel_rfl) | (rw [if_neg (by decide +kernel)]; exact ⟨rfl, rfl⟩))
    (fun os started H enc _ => lifted os started H enc)
end Go.Proofs.YteaimbiojpjneaaGreatDoor.liftResolveAll

namespace Go.Proofs.YteaimbiojpjneaaGreatDoor
theorem resolveAll_card : Claim7.holds Tryz.pinned (.plain (OpenSpec.ofChange Rows.resolveAllSpec)) Rows.resolveAllCard :=
  Claim7.holds_tied_plain_at .later [] [.data, .data, .data, .widerDeep, .data] true (true, "45658628047af929697b36e5339af5afca00b3210b491c5b6916f6bb3e3cfc95") false
    liftResolveAll.over (fun _ h => by cases h) (by kernel_rfl) (fun _ h => by cases h) resolveAll_row_tie rfl ⟨rfl, rfl⟩ (by kernel_rfl) rfl
    (fun f fn hf hfn => by
      obtain rfl : f = 5 := Option.some.inj ((show Tryz.prog.funcNamed "skyway/skywaykeep3.ResolveAll" = some 5 by kernel_rfl).symm.trans hf) |>.symm
      obtain rfl : fn = Tryz.f5 := (Option.some.inj (Tryz.func5.symm.trans hfn)).symm
      exact ⟨by kernel_rfl, fun j t ht => by
        rw [Tryz.params5] at ht
        have hm : t ∈ ([36, 38] : List Nat) := by simpa using Array.mem_of_getElem? ht
        have hall : (([36, 38] : List Nat).all fun u => !Tryz.prog.wantsStandIn u) = true := by kernel_rfl
        exact (show Tryz.prog.wantsStandIn t = false by simpa using List.all_eq_true.1 hall t hm)⟩)
    (by kernel_rfl)
/-- All tubes are free exactly if there is no clash: ResolveAll returns true at every input, and its arguments read afterwards as before. Conditions: none. -/
theorem resolveAll_holds : Rows.ResolveAllCardSaid := resolveAll_card
#print axioms resolveAll_holds
end Go.Proofs.YteaimbiojpjneaaGreatDoor
