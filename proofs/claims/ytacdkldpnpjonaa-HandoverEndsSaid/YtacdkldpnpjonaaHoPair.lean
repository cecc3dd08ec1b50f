/- What the methods of a pair of sides with channels do. -/
import Derived.Test.YtacdkldpnpjonaaHoSlices
import Derived.Test.YtacdkldpnpjonaaHoFact
import Derived.Test.YtacdkldpnpjonaaPick
set_option linter.unusedVariables false
set_option linter.unusedSimpArgs false
namespace Go.Proofs.Ytacdkldpnpjonaa
open Go.RowKit
attribute [local go_sem ↓] Go.wp_at_zero Go.wp_at_succ

def flat (m : List (Bool × Int)) : List Value := m.flatMap fun x => [.bool x.1, .int .i64 x.2]
def flatAt (m : List (Bool × Int)) (k : Nat) : Value := (flat m)[k]?.getD undef
theorem flat_len (m : List (Bool × Int)) : (flat m).length = m.length * 2 := by
  induction m with
  | nil => rfl
  | cons x r ih => simp [flat] at ih ⊢; omega
theorem flat_get (m : List (Bool × Int)) : ∀ k, k < m.length * 2 → (flat m)[k]? = some (flatAt m k) := by
  intro k hk
  unfold flatAt
  rw [List.getElem?_eq_getElem (by rw [flat_len]; exact hk)]; rfl
theorem flat_snoc (m : List (Bool × Int)) (a : Bool) (n : Int) : flat (m ++ [(a, n)]) = flat m ++ [.bool a, .int .i64 n] := by simp [flat]

/- block b holds a pair; its two channels are rows of their own, behind b -/
def PairAt (w : World) (b : Nat) (s0 c0 s1 c1 : Int) (m0 m1 : List (Bool × Int)) : Prop :=
  ∃ v0 v1, Blk w b (.cells #[.int .i64 s0, .int .i64 c0, .int .i64 s1, .int .i64 c1, v0, v1] 39) ∧
    w.ownsRow (b + 1) 25 2 v0 m0.length (flat m0) ∧ w.ownsRow (b + 1) 25 2 v1 m1.length (flat m1) ∧ (v0.ownBlock = none ∨ v0.ownBlock ≠ v1.ownBlock)
theorem below_close {w W w1 : World} {b o : Nat} {v v' : Value} (h : Below b w W) (hg : W.grownBy w1 v.ownBlock) (hB : b ≤ W.heap.size) (hr : ∀ k, v.ownBlock = some k → b + 1 ≤ k) : Below b w (w1.setCell ⟨b, o, none⟩ v') :=
  (h.grown hg hB (fun k hk => by have := hr k hk; omega)).setCell (Nat.le_refl _) _
theorem sent_close0 {W w1 : World} {b g cap : Nat} {s0 c0 s1 c1 : Int} {m0 m1 : List (Bool × Int)} {a : Bool} {n : Int} {v0 v1 : Value}
    (hblk : Blk W b (.cells #[.int .i64 s0, .int .i64 c0, .int .i64 s1, .int .i64 c1, v0, v1] 39)) (ho0 : W.ownsRow (b + 1) 25 2 v0 m0.length (flat m0)) (ho1 : W.ownsRow (b + 1) 25 2 v1 m1.length (flat m1)) (hd : v0.ownBlock = none ∨ v0.ownBlock ≠ v1.ownBlock)
    (hg : W.grownBy w1 v1.ownBlock) (hown : w1.ownsRow (b + 1) 25 2 (.slice (some ⟨g, 0, none⟩) (m1.length + 1) cap) (m1 ++ [(a, n)]).length (flat (m1 ++ [(a, n)]))) (hat : v1.ownBlock = some g ∨ g = W.heap.size) :
    PairAt (w1.setCell ⟨b, 5, none⟩ (.slice (some ⟨g, 0, none⟩) (m1.length + 1) cap)) b s0 c0 s1 c1 m0 (m1 ++ [(a, n)]) := by
  have hb1 : Blk w1 b _ := (hg.block b hblk.lt (ownsRow_ne ho1)).trans hblk
  refine ⟨v0, _, hb1.set 5 _, ownsRow_setCell_below (ho0.kept hg hd) (by simp) _, ownsRow_setCell_below hown (by simp) _, ?_⟩
  rcases hd with hd | hd
  · exact .inl hd
  · right
    intro hh
    rcases hat with hat | hat
    · exact hd (hh.trans hat.symm)
    · have := (ho0.lt g hh).2
      omega
theorem sent_close1 {W w1 : World} {b g cap : Nat} {s0 c0 s1 c1 : Int} {m0 m1 : List (Bool × Int)} {a : Bool} {n : Int} {v0 v1 : Value}
    (hblk : Blk W b (.cells #[.int .i64 s0, .int .i64 c0, .int .i64 s1, .int .i64 c1, v0, v1] 39)) (ho0 : W.ownsRow (b + 1) 25 2 v0 m0.length (flat m0)) (ho1 : W.ownsRow (b + 1) 25 2 v1 m1.length (flat m1)) (hd : v0.ownBlock = none ∨ v0.ownBlock ≠ v1.ownBlock)
    (hg : W.grownBy w1 v0.ownBlock) (hown : w1.ownsRow (b + 1) 25 2 (.slice (some ⟨g, 0, none⟩) (m0.length + 1) cap) (m0 ++ [(a, n)]).length (flat (m0 ++ [(a, n)]))) (hat : v0.ownBlock = some g ∨ g = W.heap.size) :
    PairAt (w1.setCell ⟨b, 4, none⟩ (.slice (some ⟨g, 0, none⟩) (m0.length + 1) cap)) b s0 c0 s1 c1 (m0 ++ [(a, n)]) m1 := by
  have hb1 : Blk w1 b _ := (hg.block b hblk.lt (ownsRow_ne ho0)).trans hblk
  have hd2 : v1.ownBlock = none ∨ v1.ownBlock ≠ v0.ownBlock := by
    rcases hd with hd | hd
    · rw [hd]; cases h : v1.ownBlock with
      | none => exact .inl rfl
      | some k => exact .inr (by simp)
    · exact .inr (Ne.symm hd)
  refine ⟨_, v1, hb1.set 4 _, ownsRow_setCell_below hown (by simp) _, ownsRow_setCell_below (ho1.kept hg hd2) (by simp) _, ?_⟩
  right
  intro hh
  have hh' : v1.ownBlock = some g := hh.symm
  rcases hat with hat | hat
  · rcases hd with hd | hd
    · rw [hd] at hat; cases hat
    · exact hd (hat.trans hh'.symm)
  · have := (ho1.lt g hh').2
    omega
def Sent (w : World) (b : Nat) (s0 c0 s1 c1 : Int) (m0 m1 : List (Bool × Int)) (e : Ending) (w' : World) : Prop :=
  e = .returned (.tuple #[]) ∧ PairAt w' b s0 c0 s1 c1 m0 m1 ∧ Below b w w'

set_option maxRecDepth 100000 in
set_option maxHeartbeats 1000000 in
theorem send0_any (b : Nat) (s0 c0 s1 c1 : Int) (m0 m1 : List (Bool × Int)) (a : Bool) (n : Int) (w : World) (hP : PairAt w b s0 c0 s1 c1 m0 m1) :
    Calls Try.prog 19 #[.pointer (some ⟨b, 0, none⟩), .int .i64 0, .agg #[.bool a, .int .i64 n]] w (Sent w b s0 c0 s1 c1 (if m1.length < 40 then m0 else m0) (if m1.length < 40 then m1 ++ [(a, n)] else m1)) := by
  obtain ⟨v0, v1, hblk, ho0, ho1, hdis⟩ := hP
  obtain ⟨i0, hi0, hz0, hz1, hz2⟩ := info_parts info_msg
  obtain ⟨a0, k0, e0, -, -, -, -⟩ := ownsRow_at ho0 _ (flat_get m0)
  obtain ⟨a1, k1, e1, -, -, -, -⟩ := ownsRow_at ho1 _ (flat_get m1)
  subst e0 e1
  have hlt := hblk.lt
  have wr1 : IntKind.i64.wrap 1 = 1 := rfl
  have wr0 : IntKind.i64.wrap 0 = 0 := rfl
  have x4 := hblk.get 4 _ rfl
  have x5 := hblk.get 5 _ rfl
  have y5 := hblk.free 5
  have HBlk := Lib.hid hblk; clear hblk
  have HNE := Lib.hid (ownsRow_ne ho1)
  have HNE2 := Lib.hid (fun k hk => (ho1.lt k hk).1)
  have HO0 := Lib.hid ho0; have HO1 := Lib.hid ho1; clear ho0 ho1
  have HD := Lib.hid hdis; clear hdis
  by_cases hl : m1.length < 40
  · have hd : decide (m1.length < 40) = true := by simpa using hl
    rw [if_pos hl, if_pos hl]
    go_enter Try.func19, Try.ntmps19
    go_wp2_with fail
    go_region_law (refine step_append_lies _ (by rfl) _ _ _ (by rfl) (b + 1) 25 i0 _ 2 16 Try.underlying35 hi0 hz0 hz1 hz2 rfl (by omega) _ m1.length _ (by rfl) (((HO1.out.alloc _).alloc _).drew) ⟨w.heap.size + 1, 0, none⟩ 1 1 [.bool a, .int .i64 n] (by rfl) (by rfl) (World.news_of_block (cs := #[.bool a, .int .i64 n]) (t := 25) (fr := (0, 0)) (by exact (Blk.new1 w _ _).drew)) (by simp [Value.oneCell']) (by omega) (by unfold maxLen; omega) (by omega) (by simp; omega) (w.heap.size + 1 + 1) (by simp) ?_; intro g cap w1 hown1 hgrow hat hlt1; have z1 := hgrow.cell_far ⟨b, 5, none⟩ (by simp; omega) HNE.out; have z2 := hgrow.frozen_far ⟨b, 5, none⟩ (by simp; omega) HNE.out; simp [x5, y5, hlt] at z1 z2)
    all_goals
      go_returns
      exact ⟨rfl, sent_close0 ((HBlk.out.alloc _).alloc _).drew ((HO0.out.alloc _).alloc _).drew ((HO1.out.alloc _).alloc _).drew HD.out hgrow (by rw [flat_snoc]; simpa using hown1) (by simpa using hat), below_close (by go_grown) hgrow (by simp; omega) HNE2.out⟩
  · have hd : decide (m1.length < 40) = false := by simpa using hl
    rw [if_neg hl, if_neg hl]
    go_enter Try.func19, Try.ntmps19
    go_wp2_with fail
    go_returns
    exact ⟨rfl, ⟨_, _, HBlk.out.alloc _, HO0.out.alloc _, HO1.out.alloc _, HD.out⟩, by go_grown⟩

set_option maxRecDepth 100000 in
set_option maxHeartbeats 1000000 in
theorem send1_any (b : Nat) (s0 c0 s1 c1 : Int) (m0 m1 : List (Bool × Int)) (a : Bool) (n : Int) (w : World) (hP : PairAt w b s0 c0 s1 c1 m0 m1) :
    Calls Try.prog 19 #[.pointer (some ⟨b, 0, none⟩), .int .i64 1, .agg #[.bool a, .int .i64 n]] w (Sent w b s0 c0 s1 c1 (if m0.length < 40 then m0 ++ [(a, n)] else m0) (if m0.length < 40 then m1 else m1)) := by
  obtain ⟨v0, v1, hblk, ho0, ho1, hdis⟩ := hP
  obtain ⟨i0, hi0, hz0, hz1, hz2⟩ := info_parts info_msg
  obtain ⟨a0, k0, e0, -, -, -, -⟩ := ownsRow_at ho0 _ (flat_get m0)
  obtain ⟨a1, k1, e1, -, -, -, -⟩ := ownsRow_at ho1 _ (flat_get m1)
  subst e0 e1
  have hlt := hblk.lt
  have wr1 : IntKind.i64.wrap 1 = 1 := rfl
  have wr0 : IntKind.i64.wrap 0 = 0 := rfl
  have x4 := hblk.get 4 _ rfl
  have x5 := hblk.get 5 _ rfl
  have y4 := hblk.free 4
  have HBlk := Lib.hid hblk; clear hblk
  have HNE := Lib.hid (ownsRow_ne ho0)
  have HNE2 := Lib.hid (fun k hk => (ho0.lt k hk).1)
  have HO0 := Lib.hid ho0; have HO1 := Lib.hid ho1; clear ho0 ho1
  have HD := Lib.hid hdis; clear hdis
  by_cases hl : m0.length < 40
  · have hd : decide (m0.length < 40) = true := by simpa using hl
    rw [if_pos hl, if_pos hl]
    go_enter Try.func19, Try.ntmps19
    go_wp2_with fail
    go_region_law (refine step_append_lies _ (by rfl) _ _ _ (by rfl) (b + 1) 25 i0 _ 2 16 Try.underlying35 hi0 hz0 hz1 hz2 rfl (by omega) _ m0.length _ (by rfl) (((HO0.out.alloc _).alloc _).drew) ⟨w.heap.size + 1, 0, none⟩ 1 1 [.bool a, .int .i64 n] (by rfl) (by rfl) (World.news_of_block (cs := #[.bool a, .int .i64 n]) (t := 25) (fr := (0, 0)) (by exact (Blk.new1 w _ _).drew)) (by simp [Value.oneCell']) (by omega) (by unfold maxLen; omega) (by omega) (by simp; omega) (w.heap.size + 1 + 1) (by simp) ?_; intro g cap w1 hown1 hgrow hat hlt1; have z1 := hgrow.cell_far ⟨b, 4, none⟩ (by simp; omega) HNE.out; have z2 := hgrow.frozen_far ⟨b, 4, none⟩ (by simp; omega) HNE.out; simp [x4, y4, hlt] at z1 z2)
    all_goals
      go_returns
      exact ⟨rfl, sent_close1 ((HBlk.out.alloc _).alloc _).drew ((HO0.out.alloc _).alloc _).drew ((HO1.out.alloc _).alloc _).drew HD.out hgrow (by rw [flat_snoc]; simpa using hown1) (by simpa using hat), below_close (by go_grown) hgrow (by simp; omega) HNE2.out⟩
  · have hd : decide (m0.length < 40) = false := by simpa using hl
    rw [if_neg hl, if_neg hl]
    go_enter Try.func19, Try.ntmps19
    go_wp2_with fail
    go_returns
    exact ⟨rfl, ⟨_, _, HBlk.out.alloc _, HO0.out.alloc _, HO1.out.alloc _, HD.out⟩, by go_grown⟩

end Go.Proofs.Ytacdkldpnpjonaa
