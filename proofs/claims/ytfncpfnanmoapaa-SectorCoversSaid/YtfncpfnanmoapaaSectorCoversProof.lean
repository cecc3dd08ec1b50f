/- Where nothing is left of a box each of its points is in a sector: SectorCovers returns true at every input, and its arguments read afterwards as before. Conditions: none. -/
import Derived.Test.YtfncpfnanmoapaaX1E5
import Derived.Test.YtfncpfnanmoapaaSeb
import Derived.Test.YtfncpfnanmoapaaPi23
import Derived.WalkKit
import Derived.ProofKit
import Derived.OpenShut
import Derived.ShutString
import Derived.ChangeOld
import Derived.Below
import Derived.Lib.SmallJoins
namespace Go.Proofs.Ytfncpfnanmoapaa.liftSectorCovers
open Go.Proofs.Ytfncpfnanmoapaa
open Go.ChangeShapes Go.WideShapes Go.ChangeAt Go.RowKit Go.Joins
open Go.ChangeMaps (open_string shut_string)
set_option linter.unusedVariables false

def fineI (z : Int) : Prop := -9223372036854775808 ≤ z ∧ z ≤ 9223372036854775807
def fineS (s : ByteArray) : Prop := s.size ≤ maxLen
def fineB (b : Bool) : Prop := True
def fineL {α : Type} (p : α → Prop) (l : List α) : Prop := l.length ≤ maxLen ∧ ∀ x ∈ l, p x
theorem reads_pair {W : World} {a b : Sh} {cs : List Value} (h : Reads W (.pair a b) cs) : ∃ xs ys, cs = xs ++ ys ∧ Reads W a xs ∧ Reads W b ys := by simpa only [Reads] using h
theorem reads_unit {W : World} {cs : List Value} (h : Reads W .unit cs) : cs = [] := by simpa only [Reads] using h
theorem reads_int {W : World} {cs : List Value} (h : Reads W .int cs) : ∃ n : Int, cs = [.int .i64 n] ∧ fineI n := by simp only [Reads] at h; exact h
theorem reads_str {W : World} {cs : List Value} (h : Reads W .str cs) : ∃ s : ByteArray, cs = [.string s] ∧ fineS s := by simp only [Reads] at h; exact h
theorem reads_sl {W : World} {e : Sh} {cs : List Value} (h : Reads W (.sl e) cs) : ∃ a n c, cs = [.slice a n c] ∧ Reads W (.sl e) [.slice a n c] := by
  have h' := h
  simp only [Reads] at h'
  obtain ⟨a, n, c, rfl, -⟩ := h'
  exact ⟨a, n, c, rfl, h⟩
theorem agg_cells {v : Value} {cs : Array Value} {l : List Value} (hv : v = .agg cs) (h : v.cells.toList = l) : v = .agg l.toArray := by
  subst hv; simp [Value.cells] at h; rw [← h]
def fineTP (x : TP) : Prop := fineI x.X ∧ fineI x.Y
theorem rd_lTP {W : World} {a : Option Addr} {n c : Nat} (h : Reads W (.sl (.pair .int (.pair .int .unit))) [.slice a n c]) : ∃ l : List TP, VRel (cx0 W) (lstA TP.E l) (.slice a n c) ∧ fineL fineTP l :=
  reads_lst TP.E _ fineTP rfl (fun es _ h => by
    obtain ⟨ux0, wx0, rfl, hx0, qx0⟩ := reads_pair h
    obtain ⟨x0, rfl, fx0⟩ := reads_int hx0
    obtain ⟨ux1, wx1, rfl, hx1, qx1⟩ := reads_pair qx0
    obtain ⟨x1, rfl, fx1⟩ := reads_int hx1
    obtain rfl := reads_unit qx1
    exact ⟨⟨x0, x1⟩, (rels_cons rfl (rels_cons rfl .nil)), ⟨fx0, fx1⟩⟩) h
def fineTVolume (x : TVolume) : Prop := (fineL fineTP) x.Area ∧ fineI x.Low ∧ fineI x.High
theorem rd_lTVolume {W : World} {a : Option Addr} {n c : Nat} (h : Reads W (.sl (.pair (.sl (.pair .int (.pair .int .unit))) (.pair .int (.pair .int .unit)))) [.slice a n c]) : ∃ l : List TVolume, VRel (cx0 W) (lstA TVolume.E l) (.slice a n c) ∧ fineL fineTVolume l :=
  reads_lst TVolume.E _ fineTVolume rfl (fun es _ h => by
    obtain ⟨ux0, wx0, rfl, hx0, qx0⟩ := reads_pair h
    obtain ⟨ax0, nx0, cx0, rfl, hx0⟩ := reads_sl hx0
    obtain ⟨x0, rx0, fx0⟩ := rd_lTP hx0
    obtain ⟨ux1, wx1, rfl, hx1, qx1⟩ := reads_pair qx0
    obtain ⟨x1, rfl, fx1⟩ := reads_int hx1
    obtain ⟨ux2, wx2, rfl, hx2, qx2⟩ := reads_pair qx1
    obtain ⟨x2, rfl, fx2⟩ := reads_int hx2
    obtain rfl := reads_unit qx2
    exact ⟨⟨x0, x1, x2⟩, (.cons rx0 (rels_cons rfl (rels_cons rfl .nil))), ⟨fx0, fx1, fx2⟩⟩) h
def fineTSector (x : TSector) : Prop := fineS x.Name ∧ (fineL fineTVolume) x.Room
theorem rd_lTSector {W : World} {a : Option Addr} {n c : Nat} (h : Reads W (.sl (.pair .str (.pair (.sl (.pair (.sl (.pair .int (.pair .int .unit))) (.pair .int (.pair .int .unit)))) .unit))) [.slice a n c]) : ∃ l : List TSector, VRel (cx0 W) (lstA TSector.E l) (.slice a n c) ∧ fineL fineTSector l :=
  reads_lst TSector.E _ fineTSector rfl (fun es _ h => by
    obtain ⟨ux0, wx0, rfl, hx0, qx0⟩ := reads_pair h
    obtain ⟨x0, rfl, fx0⟩ := reads_str hx0
    obtain ⟨ux1, wx1, rfl, hx1, qx1⟩ := reads_pair qx0
    obtain ⟨ax1, nx1, cx1, rfl, hx1⟩ := reads_sl hx1
    obtain ⟨x1, rx1, fx1⟩ := rd_lTVolume hx1
    obtain rfl := reads_unit qx1
    exact ⟨⟨x0, x1⟩, (rels_cons rfl (.cons rx1 .nil)), ⟨fx0, fx1⟩⟩) h
def fineTSectorBox (x : TSectorBox) : Prop := fineI x.From_X ∧ fineI x.From_Y ∧ fineI x.To_X ∧ fineI x.To_Y ∧ fineI x.Low ∧ fineI x.High
theorem own : ownKnob Try.prog.godebug = none := by kernel_rfl
theorem laidOut : laidOutB Try.prog = true := by kernel_rfl
set_option maxRecDepth 100000 in
theorem lifted (os : Os) (started : os.Started) (H : Type) (enc : TypeId × Value → H) :
    ReturnsInHanded {} Try.checked os 3 .any (Rows.sectorCoversSpec.pre6 enc Try.prog Try.f3 Rows.sectorCoversRow.domain false) (Rows.sectorCoversSpec.post enc Try.prog Try.f3 false true false false) := by
  refine returnsInHanded_of_change (C := Try.checked) own started (by kernel_rfl) Try.func3
    (ChangeSpec.witness6 (enc := enc) (C := Try.checked) false ⟨#[], #[.slice none 0 0, .agg #[.int .i64 0, .int .i64 0, .int .i64 0, .int .i64 0, .int .i64 0, .int .i64 0], .agg #[.int .i64 0, .int .i64 0], .int .i64 0], []⟩ 8 (by kernel_rfl) (by kernel_rfl) (by kernel_rfl) (by kernel_rfl)) ?_
  intro W base args ds gs before hval0 hW hcnd hsz
  have hval : ∀ (j : Nat) t v, Try.f3.params[j]? = some t → args[j]? = some v → Value.okWide Try.prog W .any base t v := hval0
  have hW' := hW
  obtain ⟨p, q, hA0, hV, rfl, hfz, hnd⟩ := hW
  have hA : DataW.TrodAll enc Try.prog W 0 (fun _ => true) true Try.f3.params.toList args.toList ds p := hA0
  rw [Try.params3] at hA hval
  obtain ⟨v0, vs0, d0, ds0, p0, q0, hargs, rfl, rfl, k0, r0⟩ := trodAll_cons hA
  obtain ⟨v1, vs1, d1, ds1, p1, q1, rfl, rfl, rfl, k1, r1⟩ := trodAll_cons r0
  obtain ⟨v2, vs2, d2, ds2, p2, q2, rfl, rfl, rfl, k2, r2⟩ := trodAll_cons r1
  obtain ⟨v3, vs3, d3, ds3, p3, q3, rfl, rfl, rfl, k3, r3⟩ := trodAll_cons r2
  obtain ⟨rfl, rfl, rfl⟩ := trodAll_nil r3
  obtain rfl : args = #[v0, v1, v2, v3] := by cases args; simp_all
  obtain ⟨rfl, rfl⟩ := trodVars_none hV
  have lt0 : ∀ x ∈ p0, x.block < W.heap.size := by obtain ⟨m, hm⟩ := k0; exact DataW.trod_lt m _ _ _ hm
  have o0 := hval 0 22 v0 rfl rfl
  have lt1 : ∀ x ∈ p1, x.block < W.heap.size := by obtain ⟨m, hm⟩ := k1; exact DataW.trod_lt m _ _ _ hm
  have o1 := hval 1 26 v1 rfl rfl
  have lt2 : ∀ x ∈ p2, x.block < W.heap.size := by obtain ⟨m, hm⟩ := k2; exact DataW.trod_lt m _ _ _ hm
  have o2 := hval 2 24 v2 rfl rfl
  have lt3 : ∀ x ∈ p3, x.block < W.heap.size := by obtain ⟨m, hm⟩ := k3; exact DataW.trod_lt m _ _ _ hm
  have o3 := hval 3 3 v3 rfl rfl
  obtain ⟨a0, n0, c0, rfl⟩ := okWide_slice Try.underlying22 o0
  obtain ⟨l0, rr0, f0⟩ := rd_lTSector (reads_arg (.sl (.pair .str (.pair (.sl (.pair (.sl (.pair .int (.pair .int .unit))) (.pair .int (.pair .int .unit)))) .unit))) (by kernel_rfl) k0)
  obtain ⟨cs1, hcs1, -⟩ := okWide_struct Try.underlying26 o1
  have h1 := reads_arg (.pair (.pair .int (.pair .int .unit)) (.pair (.pair .int (.pair .int .unit)) (.pair .int (.pair .int .unit)))) (by kernel_rfl) k1
  generalize hg1 : v1.cells.toList = es1 at h1
  obtain ⟨ux10, wx10, rfl, hx10, qx10⟩ := reads_pair h1
  obtain ⟨ux100, wx100, rfl, hx100, qx100⟩ := reads_pair hx10
  obtain ⟨x100, rfl, fx100⟩ := reads_int hx100
  obtain ⟨ux101, wx101, rfl, hx101, qx101⟩ := reads_pair qx100
  obtain ⟨x101, rfl, fx101⟩ := reads_int hx101
  obtain rfl := reads_unit qx101
  obtain ⟨ux11, wx11, rfl, hx11, qx11⟩ := reads_pair qx10
  obtain ⟨ux110, wx110, rfl, hx110, qx110⟩ := reads_pair hx11
  obtain ⟨x110, rfl, fx110⟩ := reads_int hx110
  obtain ⟨ux111, wx111, rfl, hx111, qx111⟩ := reads_pair qx110
  obtain ⟨x111, rfl, fx111⟩ := reads_int hx111
  obtain rfl := reads_unit qx111
  obtain ⟨ux12, wx12, rfl, hx12, qx12⟩ := reads_pair qx11
  obtain ⟨x12, rfl, fx12⟩ := reads_int hx12
  obtain ⟨ux13, wx13, rfl, hx13, qx13⟩ := reads_pair qx12
  obtain ⟨x13, rfl, fx13⟩ := reads_int hx13
  obtain rfl := reads_unit qx13
  obtain rfl := agg_cells hcs1 hg1
  obtain ⟨cs2, hcs2, -⟩ := okWide_struct Try.underlying24 o2
  have h2 := reads_arg (.pair .int (.pair .int .unit)) (by kernel_rfl) k2
  generalize hg2 : v2.cells.toList = es2 at h2
  obtain ⟨ux20, wx20, rfl, hx20, qx20⟩ := reads_pair h2
  obtain ⟨x20, rfl, fx20⟩ := reads_int hx20
  obtain ⟨ux21, wx21, rfl, hx21, qx21⟩ := reads_pair qx20
  obtain ⟨x21, rfl, fx21⟩ := reads_int hx21
  obtain rfl := reads_unit qx21
  obtain rfl := agg_cells hcs2 hg2
  obtain ⟨l3, rfl, -, -, f3⟩ := open_int Try.underlying3 o3 k3
  clear hA0 hval0
  refine (calls_of_says (sg3 (covers_true 5000 (by decide) l0 ⟨x100, x101, x110, x111, x12, x13⟩ ⟨x20, x21⟩ l3)) glob_none (.cons rr0 (.cons (.agg (rels_cons rfl (rels_cons rfl (rels_cons rfl (rels_cons rfl (rels_cons rfl (rels_cons rfl .nil))))))) (.cons (.agg (rels_cons rfl (rels_cons rfl .nil))) (rels_cons rfl .nil))))).mono fun e W' ⟨he, bel⟩ => ?_
  subst he
  exact ⟨_, rfl, _, _, _, [], _, [], hW', trodAll_mk1 (shut_bool Try.underlying4 _), (trodAll_cons_mk (Below.trod laidOut (by kernel_rfl) (of_decide_eq_true (by kernel_rfl)) k0 bel lt0) (trodAll_cons_mk (Below.trod laidOut (by kernel_rfl) (of_decide_eq_true (by kernel_rfl)) k1 bel lt1) (trodAll_cons_mk (Below.trod laidOut (by kernel_rfl) (of_decide_eq_true (by kernel_rfl)) k2 bel lt2) (trodAll_cons_mk (Below.trod laidOut (by kernel_rfl) (of_decide_eq_true (by kernel_rfl)) k3 bel lt3) trodAll_mk0)))), rfl, bel.frame _, fun h => by cases h⟩

theorem over : Rows.sectorCoversRow.holds Try.pinned (OpenSpec.ofChange Rows.sectorCoversSpec) :=
  OpenClaim.holds_of_wide 3 Try.f3 rfl rfl rfl rfl rfl rfl rfl ⟨rfl, rfl, rfl, rfl, rfl⟩ rfl rfl rfl rfl rfl (by kernel_rfl) Try.func3 (by kernel_rfl)
    (of_decide_eq_true (by kernel_rfl)) (by unfold Func.isWrapper; first | (rw [if_pos (by decide +kernel)]; kernel_rfl) | (rw [if_neg (by decide +kernel)]; exact ⟨rfl, rfl⟩))
    (fun os started H enc _ => lifted os started H enc)
end Go.Proofs.Ytfncpfnanmoapaa.liftSectorCovers

namespace Go.Proofs.Ytfncpfnanmoapaa
/-- Where nothing is left of a box each of its points is in a sector: SectorCovers returns true at every input, and its arguments read afterwards as before. Conditions: none. -/
theorem sectorCovers_holds : Rows.SectorCoversSaid := liftSectorCovers.over
#print axioms sectorCovers_holds
end Go.Proofs.Ytfncpfnanmoapaa
