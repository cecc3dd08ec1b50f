/- A flight reaches its height as fast as its type permits, and stays there: EffectReaches returns true at every input, and its arguments read afterwards as before. Conditions: none. -/
import Derived.Test.YtpjepkldnnfncaaDoorX3E4
import Derived.Test.YtpjepkldnnfncaaDoorFr10
import Derived.Lay
import Derived.Test.YtpjepkldnnfncaaDoorFfG
import Derived.LaidMore
import Derived.Stop.Joined
import Derived.SevenTiedAt
import Derived.Test.YtpjepkldnnfncaaDoorCards
import Derived.Test.YtpjepkldnnfncaaDoorTie
import Derived.Test.YtpjepkldnnfncaaDoorPi23
import Derived.WalkKit
import Derived.ProofKit
import Derived.OpenShut
import Derived.ShutString
import Derived.ChangeOld
import Derived.Below
import Derived.Lib.SmallJoins
namespace Go.Proofs.YtpjepkldnnfncaaDoor.liftEffectReaches
open Go.Proofs.YtpjepkldnnfncaaDoor
open Go.ChangeShapes Go.WideShapes Go.ChangeAt Go.RowKit Go.Joins
open Go.ChangeMaps (open_string shut_string)
set_option linter.unusedVariables false

def fineI (z : Int) : Prop := -9223372036854775808 ≤ z ∧ z ≤ 9223372036854775807
def fineS (s : ByteArray) : Prop := s.size ≤ maxLen
def fineB (b : Bool) : Prop := True
def fineL {α : Type} (p : α → Prop) (l : List α) : Prop := l.length ≤ maxLen ∧ ∀ x ∈ l, p x
theorem reads_pair {W : World} {a b : Sh} {cs : List Value} (h : Reads W (.pair a b) cs) : ∃ xs ys, cs = xs ++ ys ∧ Reads W a xs ∧ Reads W b ys := by simpa only [Reads] using h
theorem reads_unit {W : World} {cs : List Value} (h : Reads W .unit cs) : cs = [] := by simpa only [Reads] using h
theorem reads_int {W : World} {cs : List Value} (h : Reads W .int cs) : ∃ n : Int, cs = [.int .i64 n] ∧ fineI n := by simp only [Reads] at h; exact h
theorem reads_str {W : World} {cs : List Value} (h : Reads W .str cs) : ∃ s : ByteArray, cs = [.string s] ∧ fineS s := by simp only [Reads] at h; exact h
theorem reads_bool {W : World} {cs : List Value} (h : Reads W .bool cs) : ∃ b : Bool, cs = [.bool b] ∧ fineB b := by
  simp only [Reads] at h
  obtain ⟨b, rfl⟩ := h
  exact ⟨b, rfl, trivial⟩
theorem reads_sl {W : World} {e : Sh} {cs : List Value} (h : Reads W (.sl e) cs) : ∃ a n c, cs = [.slice a n c] ∧ Reads W (.sl e) [.slice a n c] := by
  have h' := h
  simp only [Reads] at h'
  obtain ⟨a, n, c, rfl, -⟩ := h'
  exact ⟨a, n, c, rfl, h⟩
theorem okWide_arr {P : Program} {W : World} {r : Reach} {base : Nat} {t e : TypeId} {v : Value} {n : Nat} (ht : P.underlying t = some (.array n e)) (h : Value.okWide P W r base t v) : ∃ cs, v = .agg cs ∧ cs.size = P.cellsOf t := by
  simp only [Value.okWide, ht] at h
  obtain ⟨cs, h1, h2, _⟩ := h
  exact ⟨cs, h1, h2⟩
theorem agg_cells {v : Value} {cs : Array Value} {l : List Value} (hv : v = .agg cs) (h : v.cells.toList = l) : v = .agg l.toArray := by
  subst hv; simp [Value.cells] at h; rw [← h]
def fineTTubeNode (x : TTubeNode) : Prop := fineI x.Node_Time ∧ fineI x.Node_At_X ∧ fineI x.Node_At_Y ∧ fineI x.Node_Height ∧ fineI x.Radius ∧ fineI x.Band
theorem rd_lTTubeNode {W : World} {a : Option Addr} {n c : Nat} (h : Reads W (.sl (.pair (.pair .int (.pair (.pair .int (.pair .int .unit)) (.pair .int .unit))) (.pair .int (.pair .int .unit)))) [.slice a n c]) : ∃ l : List TTubeNode, VRel (cx0 W) (lstA TTubeNode.E l) (.slice a n c) ∧ fineL fineTTubeNode l :=
  reads_lst TTubeNode.E _ fineTTubeNode rfl (fun es _ h => by
    obtain ⟨ux0, wx0, rfl, hx0, qx0⟩ := reads_pair h
    obtain ⟨ux00, wx00, rfl, hx00, qx00⟩ := reads_pair hx0
    obtain ⟨x00, rfl, fx00⟩ := reads_int hx00
    obtain ⟨ux01, wx01, rfl, hx01, qx01⟩ := reads_pair qx00
    obtain ⟨ux010, wx010, rfl, hx010, qx010⟩ := reads_pair hx01
    obtain ⟨x010, rfl, fx010⟩ := reads_int hx010
    obtain ⟨ux011, wx011, rfl, hx011, qx011⟩ := reads_pair qx010
    obtain ⟨x011, rfl, fx011⟩ := reads_int hx011
    obtain rfl := reads_unit qx011
    obtain ⟨ux02, wx02, rfl, hx02, qx02⟩ := reads_pair qx01
    obtain ⟨x02, rfl, fx02⟩ := reads_int hx02
    obtain rfl := reads_unit qx02
    obtain ⟨ux1, wx1, rfl, hx1, qx1⟩ := reads_pair qx0
    obtain ⟨x1, rfl, fx1⟩ := reads_int hx1
    obtain ⟨ux2, wx2, rfl, hx2, qx2⟩ := reads_pair qx1
    obtain ⟨x2, rfl, fx2⟩ := reads_int hx2
    obtain rfl := reads_unit qx2
    exact ⟨⟨x00, x010, x011, x02, x1, x2⟩, (rels_cons rfl (rels_cons rfl (rels_cons rfl (rels_cons rfl (rels_cons rfl (rels_cons rfl .nil)))))), ⟨fx00, fx010, fx011, fx02, fx1, fx2⟩⟩) h
def fineTKind (x : TKind) : Prop := fineS x.Name ∧ fineI x.Wake ∧ fineI x.Ceiling ∧ fineI x.Climb ∧ fineI x.Descent ∧ fineI x.Slow ∧ fineI x.Fast
theorem own : ownKnob Tryd.prog.godebug = none := by kernel_rfl
theorem laidOut : laidOutB Tryd.prog = true := by kernel_rfl
set_option maxRecDepth 100000
theorem door_met (os : Os) (args : Array Value) : laidMetH Tryd.prog laidR ((World.laidAll Tryd.prog os laidR).forCall (fun _ _ => 0) ⟨#[], args, []⟩).memory := by
  rw [MakeChecks.laidMetH_plain _ _ _ (by kernel_rfl)]
  exact laidMet_laidAll _ (by kernel_rfl) (by kernel_rfl)
theorem lifted (os : Os) (started : os.Started) (H : Type) (enc : TypeId × Value → H) :
    ReturnsInHanded {} Tryd.checked os 4 .any (fun w args => (Rows.effectReachesSpec.pre enc Tryd.prog Tryd.f4 [] false w args ∧ laidMetH Tryd.prog laidR w) ∧ sizedMet enc Tryd.prog Tryd.f4 (OpenSpec.ofChange Rows.effectReachesSpec) false w args) (Rows.effectReachesSpec.post enc Tryd.prog Tryd.f4 false true false false) := by
  refine returnsInHanded_of_change_and (C := Tryd.checked) (X := fun w _ => laidMetH Tryd.prog laidR w) (fun _ _ _ hh h => h.of_heap hh) own started (by kernel_rfl) Tryd.func4
    (ChangeSpec.witness_shaped (enc := enc) (C := Tryd.checked) (os := os) (X := fun w _ => laidMetH Tryd.prog laidR w) false (World.laidAll Tryd.prog os laidR) #[.slice none 0 0, .string ⟨#[]⟩, .int .i64 0, .int .i64 0, .agg #[.string ⟨#[]⟩, .int .i64 0, .int .i64 0, .int .i64 0, .int .i64 0, .int .i64 0, .int .i64 0]] 8 (World.laidAll_os _ _ _) (World.shaped_of_ZipB (by kernel_rfl) (by kernel_rfl)) (by kernel_rfl) (by kernel_rfl) (by kernel_rfl) (door_met os _)) ?_
  intro W base args ds gs before hval0 hW _ _ hL _
  have hval : ∀ (j : Nat) t v, Tryd.f4.params[j]? = some t → args[j]? = some v → Value.okWide Tryd.prog W .any base t v := hval0
  have hW' := hW
  obtain ⟨p, q, hA0, hV, rfl, hfz, hnd⟩ := hW
  have hA : DataW.TrodAll enc Tryd.prog W 0 (fun _ => true) true Tryd.f4.params.toList args.toList ds p := hA0
  rw [Tryd.params4] at hA hval
  obtain ⟨v0, vs0, d0, ds0, p0, q0, hargs, rfl, rfl, k0, r0⟩ := trodAll_cons hA
  obtain ⟨v1, vs1, d1, ds1, p1, q1, rfl, rfl, rfl, k1, r1⟩ := trodAll_cons r0
  obtain ⟨v2, vs2, d2, ds2, p2, q2, rfl, rfl, rfl, k2, r2⟩ := trodAll_cons r1
  obtain ⟨v3, vs3, d3, ds3, p3, q3, rfl, rfl, rfl, k3, r3⟩ := trodAll_cons r2
  obtain ⟨v4, vs4, d4, ds4, p4, q4, rfl, rfl, rfl, k4, r4⟩ := trodAll_cons r3
  obtain ⟨rfl, rfl, rfl⟩ := trodAll_nil r4
  obtain rfl : args = #[v0, v1, v2, v3, v4] := by cases args; simp_all
  obtain ⟨rfl, rfl⟩ := trodVars_none hV
  have lt0 : ∀ x ∈ p0, x.block < W.heap.size := by obtain ⟨m, hm⟩ := k0; exact DataW.trod_lt m _ _ _ hm
  have o0 := hval 0 23 v0 rfl rfl
  have lt1 : ∀ x ∈ p1, x.block < W.heap.size := by obtain ⟨m, hm⟩ := k1; exact DataW.trod_lt m _ _ _ hm
  have o1 := hval 1 9 v1 rfl rfl
  have lt2 : ∀ x ∈ p2, x.block < W.heap.size := by obtain ⟨m, hm⟩ := k2; exact DataW.trod_lt m _ _ _ hm
  have o2 := hval 2 3 v2 rfl rfl
  have lt3 : ∀ x ∈ p3, x.block < W.heap.size := by obtain ⟨m, hm⟩ := k3; exact DataW.trod_lt m _ _ _ hm
  have o3 := hval 3 3 v3 rfl rfl
  have lt4 : ∀ x ∈ p4, x.block < W.heap.size := by obtain ⟨m, hm⟩ := k4; exact DataW.trod_lt m _ _ _ hm
  have o4 := hval 4 27 v4 rfl rfl
  obtain ⟨a0, n0, c0, rfl⟩ := okWide_slice Tryd.underlying23 o0
  obtain ⟨l0, rr0, f0⟩ := rd_lTTubeNode (reads_arg (.sl (.pair (.pair .int (.pair (.pair .int (.pair .int .unit)) (.pair .int .unit))) (.pair .int (.pair .int .unit)))) (by kernel_rfl) k0)
  obtain ⟨l1, rfl, -, -, f1⟩ := open_string Tryd.underlying9 o1 k1
  obtain ⟨l2, rfl, -, -, f2⟩ := open_int Tryd.underlying3 o2 k2
  obtain ⟨l3, rfl, -, -, f3⟩ := open_int Tryd.underlying3 o3 k3
  obtain ⟨cs4, hcs4, -⟩ := okWide_struct Tryd.underlying27 o4
  have h4 := reads_arg (.pair .str (.pair .int (.pair .int (.pair .int (.pair .int (.pair .int (.pair .int .unit))))))) (by kernel_rfl) k4
  generalize hg4 : v4.cells.toList = es4 at h4
  obtain ⟨ux40, wx40, rfl, hx40, qx40⟩ := reads_pair h4
  obtain ⟨x40, rfl, fx40⟩ := reads_str hx40
  obtain ⟨ux41, wx41, rfl, hx41, qx41⟩ := reads_pair qx40
  obtain ⟨x41, rfl, fx41⟩ := reads_int hx41
  obtain ⟨ux42, wx42, rfl, hx42, qx42⟩ := reads_pair qx41
  obtain ⟨x42, rfl, fx42⟩ := reads_int hx42
  obtain ⟨ux43, wx43, rfl, hx43, qx43⟩ := reads_pair qx42
  obtain ⟨x43, rfl, fx43⟩ := reads_int hx43
  obtain ⟨ux44, wx44, rfl, hx44, qx44⟩ := reads_pair qx43
  obtain ⟨x44, rfl, fx44⟩ := reads_int hx44
  obtain ⟨ux45, wx45, rfl, hx45, qx45⟩ := reads_pair qx44
  obtain ⟨x45, rfl, fx45⟩ := reads_int hx45
  obtain ⟨ux46, wx46, rfl, hx46, qx46⟩ := reads_pair qx45
  obtain ⟨x46, rfl, fx46⟩ := reads_int hx46
  obtain rfl := reads_unit qx46
  obtain rfl := agg_cells hcs4 hg4
  clear hA0 hval0
  refine (calls_of_says (sg4 (reaches_law l0 l1 l2 l3 ⟨x40, x41, x42, x43, x44, x45, x46⟩)) (glob_ok hL) (.cons rr0 (rels_cons rfl (rels_cons rfl (rels_cons rfl (.cons (.agg (rels_cons rfl (rels_cons rfl (rels_cons rfl (rels_cons rfl (rels_cons rfl (rels_cons rfl (rels_cons rfl .nil)))))))) .nil)))))).mono fun e W' ⟨he, bel⟩ => ?_
  subst he
  exact ⟨_, rfl, _, _, _, [], _, [], hW', trodAll_mk1 (shut_bool Tryd.underlying4 _), (trodAll_cons_mk (Below.trod laidOut (by kernel_rfl) (of_decide_eq_true (by kernel_rfl)) k0 bel lt0) (trodAll_cons_mk (Below.trod laidOut (by kernel_rfl) (of_decide_eq_true (by kernel_rfl)) k1 bel lt1) (trodAll_cons_mk (Below.trod laidOut (by kernel_rfl) (of_decide_eq_true (by kernel_rfl)) k2 bel lt2) (trodAll_cons_mk (Below.trod laidOut (by kernel_rfl) (of_decide_eq_true (by kernel_rfl)) k3 bel lt3) (trodAll_cons_mk (Below.trod laidOut (by kernel_rfl) (of_decide_eq_true (by kernel_rfl)) k4 bel lt4) trodAll_mk0))))), rfl, bel.frame _, fun h => by cases h⟩

theorem over : Rows.effectReachesRow.holds Tryd.pinned (OpenSpec.ofChange Rows.effectReachesSpec) :=
  OpenClaim.holds_of_wide 4 Tryd.f4 rfl rfl rfl rfl rfl rfl rfl ⟨rfl, rfl, rfl, rfl, rfl⟩ rfl rfl rfl rfl rfl (by kernel_rfl) Tryd.func4 (by kernel_rfl)
    (of_decide_eq_true (by kernel_rfl)) (by unfold Func.isWrapper; first | (rw [if_pos (by decide +kernel)]; kernel_rfl) | (rw [if_neg (by decide +kernel)]; exact ⟨rfl, rfl⟩))
    (fun os started H enc _ => lifted os started H enc)
end Go.Proofs.YtpjepkldnnfncaaDoor.liftEffectReaches

namespace Go.Proofs.YtpjepkldnnfncaaDoor
theorem effectReaches_card : Claim7.holds Tryd.pinned (.plain (OpenSpec.ofChange Rows.effectReachesSpec)) Rows.effectReachesCard :=
  Claim7.holds_tied_plain_at .later [] [.data, .data, .data, .widerDeep, .data] true (true, "90afd5674cd10811ef6f42bdcb0c331d3def648014a5295f262c9843a3e8d3a5") false
    liftEffectReaches.over (fun _ h => by cases h) (by kernel_rfl) (fun _ h => by cases h) effectReaches_row_tie rfl ⟨rfl, rfl⟩ (by kernel_rfl) rfl
    (fun f fn hf hfn => by
      obtain rfl : f = 4 := Option.some.inj ((show Tryd.prog.funcNamed "skyway/skywaykeep3.EffectReaches" = some 4 by kernel_rfl).symm.trans hf) |>.symm
      obtain rfl : fn = Tryd.f4 := (Option.some.inj (Tryd.func4.symm.trans hfn)).symm
      exact ⟨by kernel_rfl, fun j t ht => by
        rw [Tryd.params4] at ht
        have hm : t ∈ ([23, 9, 3, 3, 27] : List Nat) := by simpa using Array.mem_of_getElem? ht
        have hall : (([23, 9, 3, 3, 27] : List Nat).all fun u => !Tryd.prog.wantsStandIn u) = true := by kernel_rfl
        exact (show Tryd.prog.wantsStandIn t = false by simpa using List.all_eq_true.1 hall t hm)⟩)
    (by kernel_rfl)
/-- A flight reaches its height as fast as its type permits, and stays there: EffectReaches returns true at every input, and its arguments read afterwards as before. Conditions: none. -/
theorem effectReaches_holds : Rows.EffectReachesCardSaid := effectReaches_card
#print axioms effectReaches_holds
end Go.Proofs.YtpjepkldnnfncaaDoor
