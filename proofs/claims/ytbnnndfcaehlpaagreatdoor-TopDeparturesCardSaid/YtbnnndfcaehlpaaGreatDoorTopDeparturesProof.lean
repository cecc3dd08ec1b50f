/- Departures of one wake class that leave the holding point with the required gap depart at once on a free runway: TopDepartures returns true at every input, and its arguments read afterwards as before. Conditions: none. -/
import Derived.Test.YtbnnndfcaehlpaaGreatDoorX1E5
import Derived.Test.YtbnnndfcaehlpaaGreatDoorTd8
import Derived.Lay
import Derived.Test.YtbnnndfcaehlpaaGreatDoorTdG
import Derived.Test.YtbnnndfcaehlpaaGreatDoorTdJA
import Derived.Test.YtbnnndfcaehlpaaGreatDoorTdJB
import Derived.Test.YtbnnndfcaehlpaaGreatDoorTdJC
import Derived.LaidMore
import Derived.Stop.Joined
import Derived.SevenTiedAt
import Derived.Test.YtbnnndfcaehlpaaGreatDoorCards
import Derived.Test.YtbnnndfcaehlpaaGreatDoorTie
import Derived.Test.YtbnnndfcaehlpaaGreatDoorPi23
import Derived.WalkKit
import Derived.ProofKit
import Derived.OpenShut
import Derived.ShutString
import Derived.ChangeOld
import Derived.Below
import Derived.Lib.SmallJoins
namespace Go.Proofs.YtbnnndfcaehlpaaGreatDoor.liftTopDepartures
open Go.Proofs.YtbnnndfcaehlpaaGreatDoor
open Go.ChangeShapes Go.WideShapes Go.ChangeAt Go.RowKit Go.Joins
open Go.ChangeMaps (open_string shut_string)
set_option linter.unusedVariables false

def fineI (z : Int) : Prop := -9223372036854775808 ≤ z ∧ z ≤ 9223372036854775807
def fineS (s : ByteArray) : Prop := s.size ≤ maxLen
def fineB (b : Bool) : Prop := True
def fineL {α : Type} (p : α → Prop) (l : List α) : Prop := l.length ≤ maxLen ∧ ∀ x ∈ l, p x
theorem reads_pair {W : World} {a b : Sh} {cs : List Value} (h : Reads W (.pair a b) cs) : ∃ xs ys, cs = xs ++ ys ∧ Reads W a xs ∧ Reads W b ys := by simpa only [Reads] using h
theorem reads_unit {W : World} {cs : List Value} (h : Reads W .unit cs) : cs = [] := by simpa only [Reads] using h
theorem reads_int {W : World} {cs : List Value} (h : Reads W .int cs) : ∃ n : Int, cs = [.int .i64 n] ∧ fineI n := by simp only [Reads] at h; exact h
theorem reads_str {W : World} {cs : List Value} (h : Reads W .str cs) : ∃ s : ByteArray, cs = [.string s] ∧ fineS s := by simp only [Reads] at h; exact h
def fineTTaxiStand (x : TTaxiStand) : Prop := fineS x.Name ∧ fineI x.Time
theorem rd_lTTaxiStand {W : World} {a : Option Addr} {n c : Nat} (h : Reads W (.sl (.pair .str (.pair .int .unit))) [.slice a n c]) : ∃ l : List TTaxiStand, VRel (cx0 W) (lstA TTaxiStand.E l) (.slice a n c) ∧ fineL fineTTaxiStand l :=
  reads_lst TTaxiStand.E _ fineTTaxiStand rfl (fun es _ h => by
    obtain ⟨ux0, wx0, rfl, hx0, qx0⟩ := reads_pair h
    obtain ⟨x0, rfl, fx0⟩ := reads_str hx0
    obtain ⟨ux1, wx1, rfl, hx1, qx1⟩ := reads_pair qx0
    obtain ⟨x1, rfl, fx1⟩ := reads_int hx1
    obtain rfl := reads_unit qx1
    exact ⟨⟨x0, x1⟩, (rels_cons rfl (rels_cons rfl .nil)), ⟨fx0, fx1⟩⟩) h
def fineTTaxiAsk (x : TTaxiAsk) : Prop := fineS x.Call ∧ fineS x.Stand ∧ fineI x.Ready
theorem rd_lTTaxiAsk {W : World} {a : Option Addr} {n c : Nat} (h : Reads W (.sl (.pair .str (.pair .str (.pair .int .unit)))) [.slice a n c]) : ∃ l : List TTaxiAsk, VRel (cx0 W) (lstA TTaxiAsk.E l) (.slice a n c) ∧ fineL fineTTaxiAsk l :=
  reads_lst TTaxiAsk.E _ fineTTaxiAsk rfl (fun es _ h => by
    obtain ⟨ux0, wx0, rfl, hx0, qx0⟩ := reads_pair h
    obtain ⟨x0, rfl, fx0⟩ := reads_str hx0
    obtain ⟨ux1, wx1, rfl, hx1, qx1⟩ := reads_pair qx0
    obtain ⟨x1, rfl, fx1⟩ := reads_str hx1
    obtain ⟨ux2, wx2, rfl, hx2, qx2⟩ := reads_pair qx1
    obtain ⟨x2, rfl, fx2⟩ := reads_int hx2
    obtain rfl := reads_unit qx2
    exact ⟨⟨x0, x1, x2⟩, (rels_cons rfl (rels_cons rfl (rels_cons rfl .nil))), ⟨fx0, fx1, fx2⟩⟩) h
theorem own : ownKnob Tryz.prog.godebug = none := by kernel_rfl
theorem laidOut : laidOutB Tryz.prog = true := by kernel_rfl
set_option maxRecDepth 100000
theorem door_met (os : Os) (args : Array Value) : laidMetH Tryz.prog laidR ((World.laidAll Tryz.prog os laidR).forCall (fun _ _ => 0) ⟨#[], args, []⟩).memory := by
  rw [MakeChecks.laidMetH_plain _ _ _ (by kernel_rfl)]
  exact laidMet_laidAll _ (by kernel_rfl) (by kernel_rfl)
theorem lifted (os : Os) (started : os.Started) (H : Type) (enc : TypeId × Value → H) :
    ReturnsInHanded {} Tryz.checked os 3 .any (fun w args => (Rows.topDeparturesSpec.pre enc Tryz.prog Tryz.f3 [] false w args ∧ laidMetH Tryz.prog laidR w) ∧ sizedMet enc Tryz.prog Tryz.f3 (OpenSpec.ofChange Rows.topDeparturesSpec) false w args) (Rows.topDeparturesSpec.post enc Tryz.prog Tryz.f3 false true false false) := by
  refine returnsInHanded_of_change_and (C := Tryz.checked) (X := fun w _ => laidMetH Tryz.prog laidR w) (fun _ _ _ hh h => h.of_heap hh) own started (by kernel_rfl) Tryz.func3
    (ChangeSpec.witness_shaped (enc := enc) (C := Tryz.checked) (os := os) (X := fun w _ => laidMetH Tryz.prog laidR w) false (World.laidAll Tryz.prog os laidR) #[.slice none 0 0, .slice none 0 0, .int .i64 0, .int .i64 0] 8 (World.laidAll_os _ _ _) (World.shaped_of_ZipB (by kernel_rfl) (by kernel_rfl)) (by kernel_rfl) (by kernel_rfl) (by kernel_rfl) (door_met os _)) ?_
  intro W base args ds gs before hval0 hW _ _ hL _
  have hval : ∀ (j : Nat) t v, Tryz.f3.params[j]? = some t → args[j]? = some v → Value.okWide Tryz.prog W .any base t v := hval0
  have hW' := hW
  obtain ⟨p, q, hA0, hV, rfl, hfz, hnd⟩ := hW
  have hA : DataW.TrodAll enc Tryz.prog W 0 (fun _ => true) true Tryz.f3.params.toList args.toList ds p := hA0
  rw [Tryz.params3] at hA hval
  obtain ⟨v0, vs0, d0, ds0, p0, q0, hargs, rfl, rfl, k0, r0⟩ := trodAll_cons hA
  obtain ⟨v1, vs1, d1, ds1, p1, q1, rfl, rfl, rfl, k1, r1⟩ := trodAll_cons r0
  obtain ⟨v2, vs2, d2, ds2, p2, q2, rfl, rfl, rfl, k2, r2⟩ := trodAll_cons r1
  obtain ⟨v3, vs3, d3, ds3, p3, q3, rfl, rfl, rfl, k3, r3⟩ := trodAll_cons r2
  obtain ⟨rfl, rfl, rfl⟩ := trodAll_nil r3
  obtain rfl : args = #[v0, v1, v2, v3] := by cases args; simp_all
  obtain ⟨rfl, rfl⟩ := trodVars_none hV
  have lt0 : ∀ x ∈ p0, x.block < W.heap.size := by obtain ⟨m, hm⟩ := k0; exact DataW.trod_lt m _ _ _ hm
  have o0 := hval 0 22 v0 rfl rfl
  have lt1 : ∀ x ∈ p1, x.block < W.heap.size := by obtain ⟨m, hm⟩ := k1; exact DataW.trod_lt m _ _ _ hm
  have o1 := hval 1 23 v1 rfl rfl
  have lt2 : ∀ x ∈ p2, x.block < W.heap.size := by obtain ⟨m, hm⟩ := k2; exact DataW.trod_lt m _ _ _ hm
  have o2 := hval 2 3 v2 rfl rfl
  have lt3 : ∀ x ∈ p3, x.block < W.heap.size := by obtain ⟨m, hm⟩ := k3; exact DataW.trod_lt m _ _ _ hm
  have o3 := hval 3 3 v3 rfl rfl
  obtain ⟨a0, n0, c0, rfl⟩ := okWide_slice Tryz.underlying22 o0
  obtain ⟨l0, rr0, f0⟩ := rd_lTTaxiStand (reads_arg (.sl (.pair .str (.pair .int .unit))) (by kernel_rfl) k0)
  obtain ⟨a1, n1, c1, rfl⟩ := okWide_slice Tryz.underlying23 o1
  obtain ⟨l1, rr1, f1⟩ := rd_lTTaxiAsk (reads_arg (.sl (.pair .str (.pair .str (.pair .int .unit)))) (by kernel_rfl) k1)
  obtain ⟨l2, rfl, -, -, f2⟩ := open_int Tryz.underlying3 o2 k2
  obtain ⟨l3, rfl, -, -, f3⟩ := open_int Tryz.underlying3 o3 k3
  clear hA0 hval0
  refine (calls_of_says (sg3 (departures_law l0 l1 l2 l3)) (glob_ok hL) (.cons rr0 (.cons rr1 (rels_cons rfl (rels_cons rfl .nil))))).mono fun e W' ⟨he, bel⟩ => ?_
  subst he
  exact ⟨_, rfl, _, _, _, [], _, [], hW', trodAll_mk1 (shut_bool Tryz.underlying4 _), (trodAll_cons_mk (Below.trod laidOut (by kernel_rfl) (of_decide_eq_true (by kernel_rfl)) k0 bel lt0) (trodAll_cons_mk (Below.trod laidOut (by kernel_rfl) (of_decide_eq_true (by kernel_rfl)) k1 bel lt1) (trodAll_cons_mk (Below.trod laidOut (by kernel_rfl) (of_decide_eq_true (by kernel_rfl)) k2 bel lt2) (trodAll_cons_mk (Below.trod laidOut (by kernel_rfl) (of_decide_eq_true (by kernel_rfl)) k3 bel lt3) trodAll_mk0)))), rfl, bel.frame _, fun h => by cases h⟩

set_option maxRecDepth 100000 in
theorem joined : joinedFacts Tryz.prog 3 Tryz.f3 Rows.topDeparturesSpec Rows.topDeparturesRow = true := by
  unfold joinedFacts
  simp only [Bool.and_eq_true]
  exact ⟨⟨⟨⟨⟨⟨⟨⟨⟨⟨⟨⟨⟨⟨⟨⟨⟨⟨⟨⟨⟨⟨⟨⟨⟨⟨⟨⟨⟨⟨⟨(by kernel_rfl), h_laid⟩, h_rowed⟩, (by kernel_rfl)⟩, (by kernel_rfl)⟩, (by kernel_rfl)⟩, (by kernel_rfl)⟩, (by kernel_rfl)⟩, (by kernel_rfl)⟩, h_inPlace⟩, h_unf⟩, h_rec⟩, h_named⟩, (by kernel_rfl)⟩, (by kernel_rfl)⟩, (by kernel_rfl)⟩, (by kernel_rfl)⟩, (by kernel_rfl)⟩, (by kernel_rfl)⟩, (by kernel_rfl)⟩, (by kernel_rfl)⟩, (by kernel_rfl)⟩, h_keys⟩, (by kernel_rfl)⟩, h_heard⟩, h_enter⟩, (by kernel_rfl)⟩, (by kernel_rfl)⟩, (by kernel_rfl)⟩, (by kernel_rfl)⟩, (by kernel_rfl)⟩, (by kernel_rfl)⟩
theorem over : Rows.topDeparturesRow.holds Tryz.pinned (OpenSpec.ofChange Rows.topDeparturesSpec) :=
  OpenClaim.holds_of_wide 3 Tryz.f3 rfl rfl rfl rfl rfl rfl rfl ⟨rfl, rfl, rfl, rfl, rfl⟩ rfl rfl rfl rfl rfl (by kernel_rfl) Tryz.func3 joined
    (of_decide_eq_true (by kernel_rfl)) (by unfold Func.isWrapper; first | (rw [if_pos (by decide +kernel)]; kernel_rfl) | (rw [if_neg (by decide +kernel)]; exact ⟨rfl, rfl⟩))
    (fun os started H enc _ => lifted os started H enc)
end Go.Proofs.YtbnnndfcaehlpaaGreatDoor.liftTopDepartures

namespace Go.Proofs.YtbnnndfcaehlpaaGreatDoor
theorem topDepartures_card : Claim7.holds Tryz.pinned (.plain (OpenSpec.ofChange Rows.topDeparturesSpec)) Rows.topDeparturesCard :=
  Claim7.holds_tied_plain_at .later [] [.data, .data, .data, .data, .data, .data, .data, .sentinel, .sentinel, .widerDeep, .data, .pinned] true (true, "33565e75f55a9dc9f70b63e519c3bf5722d7a26c5263bb26f37dc38b86372234") true
    liftTopDepartures.over (fun _ h => by cases h) (by kernel_rfl) (fun _ h => by cases h) topDepartures_row_tie rfl ⟨rfl, rfl⟩ (by kernel_rfl) rfl
    (fun f fn hf hfn => by
      obtain rfl : f = 3 := Option.some.inj ((show Tryz.prog.funcNamed "skyway/skywaytop.TopDepartures" = some 3 by kernel_rfl).symm.trans hf) |>.symm
      obtain rfl : fn = Tryz.f3 := (Option.some.inj (Tryz.func3.symm.trans hfn)).symm
      exact ⟨h_looks, fun j t ht => by
        rw [Tryz.params3] at ht
        have hm : t ∈ ([22, 23, 3, 3] : List Nat) := by simpa using Array.mem_of_getElem? ht
        have hall : (([22, 23, 3, 3] : List Nat).all fun u => !Tryz.prog.wantsStandIn u) = true := by kernel_rfl
        exact (show Tryz.prog.wantsStandIn t = false by simpa using List.all_eq_true.1 hall t hm)⟩)
    h_goes
/-- Departures of one wake class that leave the holding point with the required gap depart at once on a free runway: TopDepartures returns true at every input, and its arguments read afterwards as before. Conditions: none. -/
theorem topDepartures_holds : Rows.TopDeparturesCardSaid := topDepartures_card
#print axioms topDepartures_holds
end Go.Proofs.YtbnnndfcaehlpaaGreatDoor
