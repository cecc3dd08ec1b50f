/- tube.All: the nodes of all seconds come, one a round. -/
import Derived.Test.YtfncpfnanmoapaaSv1
import Derived.Test.YtfncpfnanmoapaaX1G
set_option linter.unusedVariables false
set_option linter.unusedSimpArgs false
namespace Go.Proofs.Ytfncpfnanmoapaa
open Go.RowKit Go.Shelf
attribute [local go_sem] Oper.semAt_some

def nodeV (x : TTubeNode) : Value := .agg #[.int .i64 x.Node_Time, .int .i64 x.Node_At_X, .int .i64 x.Node_At_Y, .int .i64 x.Node_Height, .int .i64 x.Radius, .int .i64 x.Band]
def nodeA (x : TTubeNode) : AV := .agg [intA x.Node_Time, intA x.Node_At_X, intA x.Node_At_Y, intA x.Node_Height, intA x.Radius, intA x.Band]
theorem int_of {c : Cx} {z : Int} {v : Value} (h : VRel c (intA z) v) : v = .int .i64 z := by cases h; rfl
theorem ints_of {c : Cx} : ∀ {zs : List Int} {vs : List Value}, Rels c (zs.map intA) vs → vs = zs.map (Value.int .i64)
  | [], _, .nil => rfl
  | z :: zs, _, .cons h t => by rw [int_of h, ints_of t]; rfl
theorem node_of {c : Cx} {x : TTubeNode} {v : Value} (h : VRel c (nodeA x) v) : v = nodeV x := by
  unfold nodeA at h
  cases h with
  | agg h =>
    have := ints_of (zs := [x.Node_Time, x.Node_At_X, x.Node_At_Y, x.Node_Height, x.Radius, x.Band]) h
    rw [this]; rfl
theorem two_of {c : Cx} {a b : Int} {v : Value} (h : VRel c (.tup [intA a, intA b]) v) : v = .tuple #[.int .i64 a, .int .i64 b] := by
  cases h with
  | tup h =>
    have := ints_of (zs := [a, b]) h
    rw [this]; rfl
theorem Kept.grown {w w' : World} (h : Kept w w') : w.grownBy w' none := ⟨h.os, h.tape, h.output, h.size, fun k hk _ => h.blk k hk⟩
def upto {α : Type} (f : Nat → α) (k : Nat) : List α := (List.range k).map f
theorem upto_succ {α : Type} (f : Nat → α) (k : Nat) : upto f (k + 1) = upto f k ++ [f k] := by simp [upto, List.range_succ]
theorem upto_length {α : Type} (f : Nat → α) (k : Nat) : (upto f k).length = k := by simp [upto]

set_option maxRecDepth 100000 in
set_option maxHeartbeats 2000000 in
theorem all1_in {α : Type} (nd : α → TTubeNode) {gl : Nat → Option (List AV)} {T : List TTubeNode} {a b : Int} {xs : Nat → α} {N : Nat} (hN : b = a + N) (ha : -1000000000000 ≤ a) (hb : b ≤ 1000000000000)
    (h28 : Says Try.prog gl 22 [lstA TTubeNode.E T] (intA 0)) (h42 : Says Try.prog gl 46 [lstA TTubeNode.E T] (.tup [intA a, intA b]))
    (h43 : ∀ k : Nat, k ≤ N → Says Try.prog gl 47 [lstA TTubeNode.E T, intA (a + k)] (nodeA (nd (xs k))))
    {c : Cx} (hc : Bare c) (hgl : GlobOk gl c) {Bo : Nat} (hno : c.no Bo) {tv : Value} (hr : VRel c (lstA TTubeNode.E T) tv) {Bs : Nat} (hBs1 : Bs < c.w.heap.size) (hBs2 : Bs ≠ Bo) (hBs : c.w.cell? ⟨Bs, 0, none⟩ = some tv)
    (n : Nat) (hn : 1 ≤ n) (l : Nat) (J : List α → World → Prop) (W : World) (hW : Kx c.w.heap.size Bo c.w W) (hJ : ∀ pre A B, J pre A → Kept A B → J pre B)
    (hY : ∀ pre x W1, J pre W1 → pre.length < N + 1 → YieldAt Fence.wide (n - 1) Try.prog l #[nodeV (nd x)] W1 fun e W' => e = .returned (.bool true) ∧ J (pre ++ [x]) W' ∧ Kx c.w.heap.size Bo W1 W')
    (h0 : J [] W) :
    CallsIn Fence.wide n Try.prog 45 #[.func (.yield l) #[] #[], .pointer (some ⟨Bs, 0, none⟩)] W fun e W' => (∃ v, e = .returned v) ∧ ∃ ys, ys = upto xs (N + 1) ∧ J ys W' := by
  have cellB : ∀ W', Kx c.w.heap.size Bo c.w W' → W'.cell? ⟨Bs, 0, none⟩ = some tv := fun W' h => (h.cell (p := ⟨Bs, 0, none⟩) hBs1 hBs2).trans hBs
  have hB0 := cellB W hW
  refine callsIn_of_wp Try.func45 rfl trivial ?_ rfl
  simp only [Try.ntmps45, List.size_toArray, List.length_cons, List.length_nil, Nat.reduceAdd, Nat.reduceSub, Array.replicate_succ, Array.replicate_zero, List.push_toArray, List.append_toArray, List.nil_append, List.cons_append]
  gi_wp2_with (first
    | (refine ⟨trivial, ?_⟩; gi_at_call 22; refine (says_at h28 hc hgl hno hW (.cons hr .nil) _).mono ?_; clear h28; rintro e w1 ⟨v1, rfl, hk1, hv1⟩; obtain rfl := int_of hv1; have hW1 := hW.trans (Kx.of_kept hW.size hk1); have hB1 := cellB w1 hW1; have hJ1 := hJ _ _ _ h0 hk1)
    | (refine ⟨trivial, ?_⟩; gi_at_call 46; refine (says_at h42 hc hgl hno hW1 (.cons hr .nil) _).mono ?_; clear h42; rintro e w2 ⟨v2, rfl, hk2, hv2⟩; obtain rfl := two_of hv2; have hW2 := hW1.trans (Kx.of_kept hW1.size hk2); have hJ2 := hJ _ _ _ hJ1 hk2))
  gi_loopw [5] (fun i wr => ∃ k : Nat, k ≤ N + 1 ∧ i = .int .i64 (a + k) ∧ J (upto xs k) wr ∧ Kx c.w.heap.size Bo c.w wr)
    (fun i _ => (a + N + 1 - intOf i).toNat)
  case atStart => exact ⟨0, Nat.zero_le _, by simp, hJ2, hW2⟩
  case round =>
    obtain ⟨k, hk, rfl, hJs, hnx⟩ := hrel
    have hBr := cellB wr hnx
    by_cases hlt : k ≤ N
    · have hle : a + (k : Int) ≤ a + (N : Int) := by omega
      gi_wp2_with (refine ⟨trivial, ?_⟩; gi_at_call 47; refine (says_at (h43 k hlt) hc hgl hno hnx (.cons hr (.cons (.sc _ rfl) .nil)) _).mono ?_; rintro e w3 ⟨v3, rfl, hk3, hv3⟩; obtain rfl := node_of hv3; have hW3 := hnx.trans (Kx.of_kept hnx.size hk3); have hJ3 : J (upto xs k) w3 := hJ _ _ _ hJs hk3; obtain ⟨fn, tmps, assign, body, hy, hR⟩ := hY _ (xs k) w3 hJ3 (by rw [upto_length]; omega))
      refine hR.mono ?_
      rintro e W3 ⟨rfl, hJ4, hk4⟩
      gi_wp2
      go_roundw
      case rel => exact ⟨k + 1, by omega, by rw [show a + (k : Int) + 1 = a + ((k + 1 : Nat) : Int) by omega], by rw [upto_succ]; exact hJ4, hW3.trans hk4⟩
      case measure => simp [intOf]; omega
    · obtain rfl : k = N + 1 := by omega
      have hle : ¬ a + ((N + 1 : Nat) : Int) ≤ a + (N : Int) := by omega
      gi_wp2
      go_end0
      exact ⟨⟨_, rfl⟩, hJs⟩
end Go.Proofs.Ytfncpfnanmoapaa
