/- The best sequence of arrivals is a safe plan of a runway, departures that are inserted keep it safe, and no arrival is shifted too far: TopLandings returns true at every input, and its arguments read afterwards as before. Conditions: none. -/
import Derived.Test.YtbfabclpcamlnaaGreatDoorX1E5
import Derived.Test.YtbfabclpcamlnaaGreatDoorTlC
import Derived.Lay
import Derived.Test.YtbfabclpcamlnaaGreatDoorTdG
import Derived.Test.YtbfabclpcamlnaaGreatDoorTlJA
import Derived.Test.YtbfabclpcamlnaaGreatDoorTlJB
import Derived.Test.YtbfabclpcamlnaaGreatDoorTlJC
import Derived.LaidMore
import Derived.Stop.Joined
import Derived.SevenTiedAt
import Derived.Test.YtbfabclpcamlnaaGreatDoorCards
import Derived.Test.YtbfabclpcamlnaaGreatDoorTie
import Derived.Test.YtbfabclpcamlnaaGreatDoorPi23
import Derived.WalkKit
import Derived.ProofKit
import Derived.OpenShut
import Derived.ShutString
import Derived.ChangeOld
import Derived.Below
import Derived.Lib.SmallJoins
namespace Go.Proofs.YtbfabclpcamlnaaGreatDoor.liftTopLandings
open Go.Proofs.YtbfabclpcamlnaaGreatDoor
open Go.ChangeShapes Go.WideShapes Go.ChangeAt Go.RowKit Go.Joins
open Go.ChangeMaps (open_string shut_string)
set_option linter.unusedVariables false
def Tk (z : Int) : Prop := -9223372036854775808 ≤ z ∧ z ≤ 9223372036854775807
def xO (s : ByteArray) : Prop := s.size ≤ maxLen
def Agi (b : Bool) : Prop := True
def xW {α : Type} (p : α → Prop) (l : List α) : Prop := l.length ≤ maxLen ∧ ∀ x ∈ l, p x
theorem B4 {W : World} {a b : Sh} {cs : List Value} (h : Reads W (.pair a b) cs) : ∃ xs ys, cs = xs ++ ys ∧ Reads W a xs ∧ Reads W b ys := by simpa only [Reads] using h
theorem Fu {W : World} {cs : List Value} (h : Reads W .unit cs) : cs = [] := by simpa only [Reads] using h
theorem C2 {W : World} {cs : List Value} (h : Reads W .int cs) : ∃ n : Int, cs = [.int .i64 n] ∧ Tk n := by simp only [Reads] at h; exact h
theorem iZ {W : World} {cs : List Value} (h : Reads W .str cs) : ∃ s : ByteArray, cs = [.string s] ∧ xO s := by simp only [Reads] at h; exact h
theorem bF {P : Program} {W : World} {r : Reach} {base : Nat} {t e : TypeId} {v : Value} {n : Nat} (ht : P.underlying t = some (.array n e)) (h : Value.okWide P W r base t v) : ∃ cs, v = .agg cs ∧ cs.size = P.cellsOf t := by
  simp only [Value.okWide, ht] at h
  obtain ⟨cs, h1, h2, _⟩ := h
  exact ⟨cs, h1, h2⟩
theorem iV {v : Value} {cs : Array Value} {l : List Value} (hv : v = .agg cs) (h : v.cells.toList = l) : v = .agg l.toArray := by
  subst hv; simp [Value.cells] at h; rw [← h]
def G5 (x : Ad) : Prop := xO x.Call ∧ Tk x.Bc ∧ Tk x.Time ∧ Tk x.Bs
theorem Kp {W : World} {a : Option Addr} {n c : Nat} (h : Reads W (.sl (.pair .str (.pair .int (.pair .int (.pair .int .unit))))) [.slice a n c]) : ∃ l : List Ad, Bb (Of W) (Am Ad.E l) (.slice a n c) ∧ xW G5 l :=
  Tt Ad.E _ G5 rfl (fun es _ h => by
    obtain ⟨ux0, wx0, rfl, hx0, qx0⟩ := B4 h
    obtain ⟨x0, rfl, fx0⟩ := iZ hx0
    obtain ⟨ux1, wx1, rfl, hx1, qx1⟩ := B4 qx0
    obtain ⟨x1, rfl, fx1⟩ := C2 hx1
    obtain ⟨ux2, wx2, rfl, hx2, qx2⟩ := B4 qx1
    obtain ⟨x2, rfl, fx2⟩ := C2 hx2
    obtain ⟨ux3, wx3, rfl, hx3, qx3⟩ := B4 qx2
    obtain ⟨x3, rfl, fx3⟩ := C2 hx3
    obtain rfl := Fu qx3
    exact ⟨⟨x0, x1, x2, x3⟩, (Cz rfl (Cz rfl (Cz rfl (Cz rfl .nil)))), ⟨fx0, fx1, fx2, fx3⟩⟩) h
def I3 (x : Av) : Prop := Tk x.Time ∧ Tk x.Bc
theorem Od {W : World} {a : Option Addr} {n c : Nat} (h : Reads W (.sl (.pair .int (.pair .int .unit))) [.slice a n c]) : ∃ l : List Av, Bb (Of W) (Am Av.E l) (.slice a n c) ∧ xW I3 l :=
  Tt Av.E _ I3 rfl (fun es _ h => by
    obtain ⟨ux0, wx0, rfl, hx0, qx0⟩ := B4 h
    obtain ⟨x0, rfl, fx0⟩ := C2 hx0
    obtain ⟨ux1, wx1, rfl, hx1, qx1⟩ := B4 qx0
    obtain ⟨x1, rfl, fx1⟩ := C2 hx1
    obtain rfl := Fu qx1
    exact ⟨⟨x0, x1⟩, (Cz rfl (Cz rfl .nil)), ⟨fx0, fx1⟩⟩) h
theorem own : ownKnob Tryz.prog.godebug = none := by kernel_rfl
theorem laidOut : laidOutB Tryz.prog = true := by kernel_rfl
set_option maxRecDepth 100000
theorem mD (os : Os) (args : Array Value) : laidMetH Tryz.prog Pq ((World.laidAll Tryz.prog os Pq).forCall (fun _ _ => 0) ⟨#[], args, []⟩).memory := by
  rw [MakeChecks.laidMetH_plain _ _ _ (by kernel_rfl)]
  exact laidMet_laidAll _ (by kernel_rfl) (by kernel_rfl)
theorem lifted (os : Os) (started : os.Started) (H : Type) (enc : TypeId × Value → H) :
    ReturnsInHanded {} Tryz.checked os 3 .any (fun w args => (Rows.topLandingsSpec.pre enc Tryz.prog Tryz.f3 [] false w args ∧ laidMetH Tryz.prog Pq w) ∧ sizedMet enc Tryz.prog Tryz.f3 (OpenSpec.ofChange Rows.topLandingsSpec) false w args) (Rows.topLandingsSpec.post enc Tryz.prog Tryz.f3 false true false false) := by
  refine returnsInHanded_of_change_and (C := Tryz.checked) (X := fun w _ => laidMetH Tryz.prog Pq w) (fun _ _ _ hh h => h.of_heap hh) own started (by kernel_rfl) Tryz.func3
    (ChangeSpec.witness_shaped (enc := enc) (C := Tryz.checked) (os := os) (X := fun w _ => laidMetH Tryz.prog Pq w) false (World.laidAll Tryz.prog os Pq) #[.slice none 0 0, .agg #[.int .i64 0, .int .i64 0, .int .i64 0, .int .i64 0, .int .i64 0, .int .i64 0, .int .i64 0, .int .i64 0, .int .i64 0, .int .i64 0, .int .i64 0, .int .i64 0, .int .i64 0, .int .i64 0, .int .i64 0, .int .i64 0], .int .i64 0, .slice none 0 0] 8 (World.laidAll_os _ _ _) (World.shaped_of_ZipB (by kernel_rfl) (by kernel_rfl)) (by kernel_rfl) (by kernel_rfl) (by kernel_rfl) (mD os _)) ?_
  intro W base args ds gs before hval0 hW _ _ hL _
  have hval : ∀ (j : Nat) t v, Tryz.f3.params[j]? = some t → args[j]? = some v → Value.okWide Tryz.prog W .any base t v := hval0
  have hW' := hW
  obtain ⟨p, q, hA0, hV, rfl, hfz, hnd⟩ := hW
  have hA : DataW.TrodAll enc Tryz.prog W 0 (fun _ => true) true Tryz.f3.params.toList args.toList ds p := hA0
  rw [Tryz.params3] at hA hval
  obtain ⟨v0, vs0, d0, ds0, p0, q0, hargs, rfl, rfl, k0, r0⟩ := trodAll_cons hA
  obtain ⟨v1, vs1, d1, ds1, p1, q1, rfl, rfl, rfl, k1, r1⟩ := trodAll_cons r0
  obtain ⟨v2, vs2, d2, ds2, p2, q2, rfl, rfl, rfl, k2, r2⟩ := trodAll_cons r1
  obtain ⟨v3, vs3, d3, ds3, p3, q3, rfl, rfl, rfl, k3, r3⟩ := trodAll_cons r2
  obtain ⟨rfl, rfl, rfl⟩ := trodAll_nil r3
  obtain rfl : args = #[v0, v1, v2, v3] := by cases args; simp_all
  obtain ⟨rfl, rfl⟩ := trodVars_none hV
  have lt0 : ∀ x ∈ p0, x.block < W.heap.size := by obtain ⟨m, hm⟩ := k0; exact DataW.trod_lt m _ _ _ hm
  have o0 := hval 0 22 v0 rfl rfl
  have lt1 : ∀ x ∈ p1, x.block < W.heap.size := by obtain ⟨m, hm⟩ := k1; exact DataW.trod_lt m _ _ _ hm
  have o1 := hval 1 25 v1 rfl rfl
  have lt2 : ∀ x ∈ p2, x.block < W.heap.size := by obtain ⟨m, hm⟩ := k2; exact DataW.trod_lt m _ _ _ hm
  have o2 := hval 2 3 v2 rfl rfl
  have lt3 : ∀ x ∈ p3, x.block < W.heap.size := by obtain ⟨m, hm⟩ := k3; exact DataW.trod_lt m _ _ _ hm
  have o3 := hval 3 26 v3 rfl rfl
  obtain ⟨a0, n0, c0, rfl⟩ := okWide_slice Tryz.underlying22 o0
  obtain ⟨l0, rr0, f0⟩ := Kp (N6 (.sl (.pair .str (.pair .int (.pair .int (.pair .int .unit))))) (by kernel_rfl) k0)
  obtain ⟨cs1, hcs1, -⟩ := bF Tryz.underlying25 o1
  have h1 := N6 (.pair (.pair .int (.pair .int (.pair .int (.pair .int .unit)))) (.pair (.pair .int (.pair .int (.pair .int (.pair .int .unit)))) (.pair (.pair .int (.pair .int (.pair .int (.pair .int .unit)))) (.pair (.pair .int (.pair .int (.pair .int (.pair .int .unit)))) .unit)))) (by kernel_rfl) k1
  generalize hg1 : v1.cells.toList = es1 at h1
  obtain ⟨ux10, wx10, rfl, hx10, qx10⟩ := B4 h1
  obtain ⟨ux100, wx100, rfl, hx100, qx100⟩ := B4 hx10
  obtain ⟨x100, rfl, fx100⟩ := C2 hx100
  obtain ⟨ux101, wx101, rfl, hx101, qx101⟩ := B4 qx100
  obtain ⟨x101, rfl, fx101⟩ := C2 hx101
  obtain ⟨ux102, wx102, rfl, hx102, qx102⟩ := B4 qx101
  obtain ⟨x102, rfl, fx102⟩ := C2 hx102
  obtain ⟨ux103, wx103, rfl, hx103, qx103⟩ := B4 qx102
  obtain ⟨x103, rfl, fx103⟩ := C2 hx103
  obtain rfl := Fu qx103
  obtain ⟨ux11, wx11, rfl, hx11, qx11⟩ := B4 qx10
  obtain ⟨ux110, wx110, rfl, hx110, qx110⟩ := B4 hx11
  obtain ⟨x110, rfl, fx110⟩ := C2 hx110
  obtain ⟨ux111, wx111, rfl, hx111, qx111⟩ := B4 qx110
  obtain ⟨x111, rfl, fx111⟩ := C2 hx111
  obtain ⟨ux112, wx112, rfl, hx112, qx112⟩ := B4 qx111
  obtain ⟨x112, rfl, fx112⟩ := C2 hx112
  obtain ⟨ux113, wx113, rfl, hx113, qx113⟩ := B4 qx112
  obtain ⟨x113, rfl, fx113⟩ := C2 hx113
  obtain rfl := Fu qx113
  obtain ⟨ux12, wx12, rfl, hx12, qx12⟩ := B4 qx11
  obtain ⟨ux120, wx120, rfl, hx120, qx120⟩ := B4 hx12
  obtain ⟨x120, rfl, fx120⟩ := C2 hx120
  obtain ⟨ux121, wx121, rfl, hx121, qx121⟩ := B4 qx120
  obtain ⟨x121, rfl, fx121⟩ := C2 hx121
  obtain ⟨ux122, wx122, rfl, hx122, qx122⟩ := B4 qx121
  obtain ⟨x122, rfl, fx122⟩ := C2 hx122
  obtain ⟨ux123, wx123, rfl, hx123, qx123⟩ := B4 qx122
  obtain ⟨x123, rfl, fx123⟩ := C2 hx123
  obtain rfl := Fu qx123
  obtain ⟨ux13, wx13, rfl, hx13, qx13⟩ := B4 qx12
  obtain ⟨ux130, wx130, rfl, hx130, qx130⟩ := B4 hx13
  obtain ⟨x130, rfl, fx130⟩ := C2 hx130
  obtain ⟨ux131, wx131, rfl, hx131, qx131⟩ := B4 qx130
  obtain ⟨x131, rfl, fx131⟩ := C2 hx131
  obtain ⟨ux132, wx132, rfl, hx132, qx132⟩ := B4 qx131
  obtain ⟨x132, rfl, fx132⟩ := C2 hx132
  obtain ⟨ux133, wx133, rfl, hx133, qx133⟩ := B4 qx132
  obtain ⟨x133, rfl, fx133⟩ := C2 hx133
  obtain rfl := Fu qx133
  obtain rfl := Fu qx13
  obtain rfl := iV hcs1 hg1
  obtain ⟨l2, rfl, -, -, f2⟩ := open_int Tryz.underlying3 o2 k2
  obtain ⟨a3, n3, c3, rfl⟩ := okWide_slice Tryz.underlying26 o3
  obtain ⟨l3, rr3, f3⟩ := Od (N6 (.sl (.pair .int (.pair .int .unit))) (by kernel_rfl) k3)
  clear hA0 hval0
  refine (R2 (sg3 (Ut l0 ⟨x100, x101, x102, x103, x110, x111, x112, x113, x120, x121, x122, x123, x130, x131, x132, x133⟩ l2 l3)) (qX hL) (.cons rr0 (.cons (.agg (Cz rfl (Cz rfl (Cz rfl (Cz rfl (Cz rfl (Cz rfl (Cz rfl (Cz rfl (Cz rfl (Cz rfl (Cz rfl (Cz rfl (Cz rfl (Cz rfl (Cz rfl (Cz rfl .nil))))))))))))))))) (Cz rfl (.cons rr3 .nil))))).mono fun e W' ⟨he, bel⟩ => ?_
  subst he
  exact ⟨_, rfl, _, _, _, [], _, [], hW', trodAll_mk1 (shut_bool Tryz.underlying4 _), (trodAll_cons_mk (Below.trod laidOut (by kernel_rfl) (of_decide_eq_true (by kernel_rfl)) k0 bel lt0) (trodAll_cons_mk (Below.trod laidOut (by kernel_rfl) (of_decide_eq_true (by kernel_rfl)) k1 bel lt1) (trodAll_cons_mk (Below.trod laidOut (by kernel_rfl) (of_decide_eq_true (by kernel_rfl)) k2 bel lt2) (trodAll_cons_mk (Below.trod laidOut (by kernel_rfl) (of_decide_eq_true (by kernel_rfl)) k3 bel lt3) trodAll_mk0)))), rfl, bel.frame _, fun h => by cases h⟩
set_option maxRecDepth 100000 in
theorem Aa4 : joinedFacts Tryz.prog 3 Tryz.f3 Rows.topLandingsSpec Rows.topLandingsRow = true := by
  unfold joinedFacts
  simp only [Bool.and_eq_true]
  exact ⟨⟨⟨⟨⟨⟨⟨⟨⟨⟨⟨⟨⟨⟨⟨⟨⟨⟨⟨⟨⟨⟨⟨⟨⟨⟨⟨⟨⟨⟨⟨(by kernel_rfl), Aaj⟩, tH⟩, (by kernel_rfl)⟩, (by kernel_rfl)⟩, (by kernel_rfl)⟩, (by kernel_rfl)⟩, (by kernel_rfl)⟩, (by kernel_rfl)⟩, fO⟩, Acd⟩, Ac6⟩, w6⟩, (by kernel_rfl)⟩, (by kernel_rfl)⟩, (by kernel_rfl)⟩, (by kernel_rfl)⟩, (by kernel_rfl)⟩, (by kernel_rfl)⟩, (by kernel_rfl)⟩, (by kernel_rfl)⟩, (by kernel_rfl)⟩, Abf⟩, (by kernel_rfl)⟩, rL⟩, wX⟩, (by kernel_rfl)⟩, (by kernel_rfl)⟩, (by kernel_rfl)⟩, (by kernel_rfl)⟩, (by kernel_rfl)⟩, (by kernel_rfl)⟩
theorem over : Rows.topLandingsRow.holds Tryz.pinned (OpenSpec.ofChange Rows.topLandingsSpec) :=
  OpenClaim.holds_of_wide 3 Tryz.f3 rfl rfl rfl rfl rfl rfl rfl ⟨rfl, rfl, rfl, rfl, rfl⟩ rfl rfl rfl rfl rfl (by kernel_rfl) Tryz.func3 Aa4
    (of_decide_eq_true (by kernel_rfl)) (by unfold Func.isWrapper; first | (rw [if_pos (by decide +kernel)]; kernel_rfl) | (rw [if_neg (by decide +kernel)]; exact ⟨rfl, rfl⟩))
    (fun os started H enc _ => lifted os started H enc)
end Go.Proofs.YtbfabclpcamlnaaGreatDoor.liftTopLandings
namespace Go.Proofs.YtbfabclpcamlnaaGreatDoor
theorem topLandings_card : Claim7.holds Tryz.pinned (.plain (OpenSpec.ofChange Rows.topLandingsSpec)) Rows.topLandingsCard :=
  Claim7.holds_tied_plain_at .later [] [.data, .data, .data, .data, .data, .data, .data, .sentinel, .sentinel, .widerDeep, .data, .pinned] true (true, "8792aea55bc923731e8786262a96d571d8cc8c8473e1b92c0e7c6f9c556fb42a") true
    liftTopLandings.over (fun _ h => by cases h) (by kernel_rfl) (fun _ h => by cases h) topLandings_row_tie rfl ⟨rfl, rfl⟩ (by kernel_rfl) rfl
    (fun f fn hf hfn => by
      obtain rfl : f = 3 := Option.some.inj ((show Tryz.prog.funcNamed "skyway/skywaytop.TopLandings" = some 3 by kernel_rfl).symm.trans hf) |>.symm
      obtain rfl : fn = Tryz.f3 := (Option.some.inj (Tryz.func3.symm.trans hfn)).symm
      exact ⟨rY, fun j t ht => by
        rw [Tryz.params3] at ht
        have hm : t ∈ ([22, 25, 3, 26] : List Nat) := by simpa using Array.mem_of_getElem? ht
        have hall : (([22, 25, 3, 26] : List Nat).all fun u => !Tryz.prog.wantsStandIn u) = true := by kernel_rfl
        exact (show Tryz.prog.wantsStandIn t = false by simpa using List.all_eq_true.1 hall t hm)⟩)
    Abx
/-- The best sequence of arrivals is a safe plan of a runway, departures that are inserted keep it safe, and no arrival is shifted too far: TopLandings returns true at every input, and its arguments read afterwards as before. Conditions: none. -/
theorem topLandings_holds : Rows.TopLandingsCardSaid := topLandings_card
#print axioms topLandings_holds
end Go.Proofs.YtbfabclpcamlnaaGreatDoor
