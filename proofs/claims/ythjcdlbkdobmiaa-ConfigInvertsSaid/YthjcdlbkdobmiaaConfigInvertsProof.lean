/- Combining undoes splitting, and splitting undoes combining: ConfigInverts returns true at every input, and its arguments read afterwards as before. Conditions: none. -/
import Derived.Test.YthjcdlbkdobmiaaX1E2
import Derived.Test.YthjcdlbkdobmiaaCc4
import Derived.SizedLaws
import Derived.Test.YthjcdlbkdobmiaaPi23
import Derived.WalkKit
import Derived.ProofKit
import Derived.OpenShut
import Derived.ShutString
import Derived.ChangeOld
import Derived.Below
import Derived.Lib.SmallJoins
namespace Go.Proofs.Ythjcdlbkdobmiaa.liftConfigInverts
open Go.Proofs.Ythjcdlbkdobmiaa
open Go.ChangeShapes Go.WideShapes Go.ChangeAt Go.RowKit Go.Joins
open Go.ChangeMaps (open_string shut_string)
set_option linter.unusedVariables false

def fineI (z : Int) : Prop := -9223372036854775808 ≤ z ∧ z ≤ 9223372036854775807
def fineS (s : ByteArray) : Prop := s.size ≤ maxLen
def fineB (b : Bool) : Prop := True
def fineL {α : Type} (p : α → Prop) (l : List α) : Prop := l.length ≤ maxLen ∧ ∀ x ∈ l, p x
theorem reads_pair {W : World} {a b : Sh} {cs : List Value} (h : Reads W (.pair a b) cs) : ∃ xs ys, cs = xs ++ ys ∧ Reads W a xs ∧ Reads W b ys := by simpa only [Reads] using h
theorem reads_unit {W : World} {cs : List Value} (h : Reads W .unit cs) : cs = [] := by simpa only [Reads] using h
theorem reads_int {W : World} {cs : List Value} (h : Reads W .int cs) : ∃ n : Int, cs = [.int .i64 n] ∧ fineI n := by simp only [Reads] at h; exact h
theorem reads_str {W : World} {cs : List Value} (h : Reads W .str cs) : ∃ s : ByteArray, cs = [.string s] ∧ fineS s := by simp only [Reads] at h; exact h
theorem reads_bool {W : World} {cs : List Value} (h : Reads W .bool cs) : ∃ b : Bool, cs = [.bool b] ∧ fineB b := by
  simp only [Reads] at h
  obtain ⟨b, rfl⟩ := h
  exact ⟨b, rfl, trivial⟩
theorem reads_sl {W : World} {e : Sh} {cs : List Value} (h : Reads W (.sl e) cs) : ∃ a n c, cs = [.slice a n c] ∧ Reads W (.sl e) [.slice a n c] := by
  have h' := h
  simp only [Reads] at h'
  obtain ⟨a, n, c, rfl, -⟩ := h'
  exact ⟨a, n, c, rfl, h⟩
theorem okWide_arr {P : Program} {W : World} {r : Reach} {base : Nat} {t e : TypeId} {v : Value} {n : Nat} (ht : P.underlying t = some (.array n e)) (h : Value.okWide P W r base t v) : ∃ cs, v = .agg cs ∧ cs.size = P.cellsOf t := by
  simp only [Value.okWide, ht] at h
  obtain ⟨cs, h1, h2, _⟩ := h
  exact ⟨cs, h1, h2⟩
theorem agg_cells {v : Value} {cs : Array Value} {l : List Value} (hv : v = .agg cs) (h : v.cells.toList = l) : v = .agg l.toArray := by
  subst hv; simp [Value.cells] at h; rw [← h]
theorem rd_lstr {W : World} {a : Option Addr} {n c : Nat} (h : Reads W (.sl .str) [.slice a n c]) : ∃ l : List ByteArray, VRel (cx0 W) (lstA strE l) (.slice a n c) ∧ fineL fineS l :=
  reads_lst strE _ fineS rfl (fun es _ h => by
    obtain ⟨x, rfl, fx⟩ := reads_str h
    exact ⟨x, (rels_cons rfl .nil), fx⟩) h
def fineTConfigGroup (x : TConfigGroup) : Prop := fineS x.Position ∧ (fineL fineS) x.Sectors
theorem rd_lTConfigGroup {W : World} {a : Option Addr} {n c : Nat} (h : Reads W (.sl (.pair .str (.pair (.sl .str) .unit))) [.slice a n c]) : ∃ l : List TConfigGroup, VRel (cx0 W) (lstA TConfigGroup.E l) (.slice a n c) ∧ fineL fineTConfigGroup l :=
  reads_lst TConfigGroup.E _ fineTConfigGroup rfl (fun es _ h => by
    obtain ⟨ux0, wx0, rfl, hx0, qx0⟩ := reads_pair h
    obtain ⟨x0, rfl, fx0⟩ := reads_str hx0
    obtain ⟨ux1, wx1, rfl, hx1, qx1⟩ := reads_pair qx0
    obtain ⟨ax1, nx1, cx1, rfl, hx1⟩ := reads_sl hx1
    obtain ⟨x1, rx1, fx1⟩ := rd_lstr hx1
    obtain rfl := reads_unit qx1
    exact ⟨⟨x0, x1⟩, (rels_cons rfl (.cons rx1 .nil)), ⟨fx0, fx1⟩⟩) h
theorem sliceN {c : Cx} {α : Type} {E : En α} {l : List α} {a : Option Addr} {n cap : Nat} (h : VRel c (lstA E l) (.slice a n cap)) : l.length = n := by
  have key : ∀ {v : AV} {u : Value}, VRel c v u → ∀ (k : Nat) (cs : List AV) (ex : Bool) (a : Option Addr) (n cap : Nat), v = .lst k cs ex → u = .slice a n cap → k = n := by
    intro v u h k cs ex a n cap h1 h2
    cases h <;> simp_all
  exact key h _ _ _ _ _ _ rfl rfl
theorem len_room {H : Type} {enc : TypeId × Value → H} {P : Program} {W : World} {ts : List TypeId} {ds : List (DataW H)} (h : (DataW.weightsEach P ts ds).all (· ≤ reachBytes) = true) {j : Nat} {t e : TypeId} (ht : ts[j]? = some t) {d : DataW H} (hd : ds[j]? = some d) (hu : P.underlying t = some (.slice e)) {a : Option Addr} {n cap base : Nat} {sp : Nat → Bool} {held : Bool} {p : List MemPlace} (hk : DataW.Trod enc P W base sp held t (.slice a n cap) d p) : n * P.bytesOf e ≤ reachBytes := by
  obtain ⟨fuel, hf⟩ := hk
  rcases DataW.trod_slice hu hf with ⟨h1, -⟩ | ⟨a', len, cap', elems, rest, m, -, h1, hx, -, -, -, hl, -⟩
  · have h1 : [Value.slice a n cap] = [.slice none 0 0] := h1
    simp only [List.cons.injEq, Value.slice.injEq, and_true] at h1
    obtain ⟨-, rfl, -⟩ := h1
    simp
  · have h1 : [Value.slice a n cap] = [.slice (some a') len cap'] := h1
    simp only [List.cons.injEq, Value.slice.injEq, and_true] at h1
    obtain ⟨-, rfl, -⟩ := h1
    simp only [Prod.mk.injEq] at hx
    obtain ⟨rfl, -⟩ := hx
    have := sized_slice h ht hd hu
    rw [List.length_map, List.length_map, hl] at this
    exact Nat.le_trans (Nat.mul_le_mul_right _ (Nat.le_add_right _ _)) this
theorem own : ownKnob Try.prog.godebug = none := by kernel_rfl
theorem laidOut : laidOutB Try.prog = true := by kernel_rfl
set_option maxRecDepth 100000 in
theorem lifted (os : Os) (started : os.Started) (H : Type) (enc : TypeId × Value → H) :
    ReturnsInHanded {} Try.checked os 4 .any (Rows.configInvertsSpec.pre6 enc Try.prog Try.f4 Rows.configInvertsRow.domain false) (Rows.configInvertsSpec.post enc Try.prog Try.f4 false true false false) := by
  refine returnsInHanded_of_change_sized (C := Try.checked) own started (by kernel_rfl) Try.func4
    (ChangeSpec.witness6 (enc := enc) (C := Try.checked) false ⟨#[], #[.slice none 0 0, .string ⟨#[]⟩, .string ⟨#[]⟩, .slice none 0 0], []⟩ 8 (by kernel_rfl) (by kernel_rfl) (by kernel_rfl) (by kernel_rfl)) ?_
  intro W base args ds gs before hval0 hW hcnd hwgt hsz
  have hval : ∀ (j : Nat) t v, Try.f4.params[j]? = some t → args[j]? = some v → Value.okWide Try.prog W .any base t v := hval0
  have hW' := hW
  obtain ⟨p, q, hA0, hV, rfl, hfz, hnd⟩ := hW
  have hA : DataW.TrodAll enc Try.prog W 0 (fun _ => true) true Try.f4.params.toList args.toList ds p := hA0
  rw [Try.params4] at hA hval
  obtain ⟨v0, vs0, d0, ds0, p0, q0, hargs, rfl, rfl, k0, r0⟩ := trodAll_cons hA
  obtain ⟨v1, vs1, d1, ds1, p1, q1, rfl, rfl, rfl, k1, r1⟩ := trodAll_cons r0
  obtain ⟨v2, vs2, d2, ds2, p2, q2, rfl, rfl, rfl, k2, r2⟩ := trodAll_cons r1
  obtain ⟨v3, vs3, d3, ds3, p3, q3, rfl, rfl, rfl, k3, r3⟩ := trodAll_cons r2
  obtain ⟨rfl, rfl, rfl⟩ := trodAll_nil r3
  obtain rfl : args = #[v0, v1, v2, v3] := by cases args; simp_all
  obtain ⟨rfl, rfl⟩ := trodVars_none hV
  have lt0 : ∀ x ∈ p0, x.block < W.heap.size := by obtain ⟨m, hm⟩ := k0; exact DataW.trod_lt m _ _ _ hm
  have o0 := hval 0 22 v0 rfl rfl
  have lt1 : ∀ x ∈ p1, x.block < W.heap.size := by obtain ⟨m, hm⟩ := k1; exact DataW.trod_lt m _ _ _ hm
  have o1 := hval 1 9 v1 rfl rfl
  have lt2 : ∀ x ∈ p2, x.block < W.heap.size := by obtain ⟨m, hm⟩ := k2; exact DataW.trod_lt m _ _ _ hm
  have o2 := hval 2 9 v2 rfl rfl
  have lt3 : ∀ x ∈ p3, x.block < W.heap.size := by obtain ⟨m, hm⟩ := k3; exact DataW.trod_lt m _ _ _ hm
  have o3 := hval 3 23 v3 rfl rfl
  obtain ⟨a0, n0, c0, rfl⟩ := okWide_slice Try.underlying22 o0
  obtain ⟨l0, rr0, f0⟩ := rd_lTConfigGroup (reads_arg (.sl (.pair .str (.pair (.sl .str) .unit))) (by kernel_rfl) k0)
  obtain ⟨l1, rfl, -, -, f1⟩ := open_string Try.underlying9 o1 k1
  obtain ⟨l2, rfl, -, -, f2⟩ := open_string Try.underlying9 o2 k2
  obtain ⟨a3, n3, c3, rfl⟩ := okWide_slice Try.underlying23 o3
  obtain ⟨l3, rr3, f3⟩ := rd_lstr (reads_arg (.sl .str) (by kernel_rfl) k3)
  have r3 : l3.length * 16 ≤ 140737488351232 := by
    have := len_room hwgt (j := 3) (by kernel_rfl) rfl Try.underlying23 k3
    rw [← sliceN rr3, show Try.checked.prog.bytesOf 9 = 16 by kernel_rfl] at this
    exact this
  clear hA0 hval0
  refine (calls_of_says (sg4 (inverts_law l0 l1 l2 l3 (by omega))) glob_none (.cons rr0 (rels_cons rfl (rels_cons rfl (.cons rr3 .nil))))).mono fun e W' ⟨he, bel⟩ => ?_
  subst he
  exact ⟨_, rfl, _, _, _, [], _, [], hW', trodAll_mk1 (shut_bool Try.underlying4 _), (trodAll_cons_mk (Below.trod laidOut (by kernel_rfl) (of_decide_eq_true (by kernel_rfl)) k0 bel lt0) (trodAll_cons_mk (Below.trod laidOut (by kernel_rfl) (of_decide_eq_true (by kernel_rfl)) k1 bel lt1) (trodAll_cons_mk (Below.trod laidOut (by kernel_rfl) (of_decide_eq_true (by kernel_rfl)) k2 bel lt2) (trodAll_cons_mk (Below.trod laidOut (by kernel_rfl) (of_decide_eq_true (by kernel_rfl)) k3 bel lt3) trodAll_mk0)))), rfl, bel.frame _, fun h => by cases h⟩

theorem over : Rows.configInvertsRow.holds Try.pinned (OpenSpec.ofChange Rows.configInvertsSpec) :=
  OpenClaim.holds_of_wide 4 Try.f4 rfl rfl rfl rfl rfl rfl rfl ⟨rfl, rfl, rfl, rfl, rfl⟩ rfl rfl rfl rfl rfl (by kernel_rfl) Try.func4 (by kernel_rfl)
    (of_decide_eq_true (by kernel_rfl)) (by unfold Func.isWrapper; first | (rw [if_pos (by decide +kernel)]; kernel_rfl) | (rw [if_neg (by decide +kernel)]; exact ⟨rfl, rfl⟩))
    (fun os started H enc _ => lifted os started H enc)
end Go.Proofs.Ythjcdlbkdobmiaa.liftConfigInverts

namespace Go.Proofs.Ythjcdlbkdobmiaa
/-- Combining undoes splitting, and splitting undoes combining: ConfigInverts returns true at every input, and its arguments read afterwards as before. Conditions: none. -/
theorem configInverts_holds : Rows.ConfigInvertsSaid := liftConfigInverts.over
#print axioms configInverts_holds
end Go.Proofs.Ythjcdlbkdobmiaa
