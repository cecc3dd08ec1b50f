/- What a step of a pair does: Give and Again. -/
import Derived.Test.YtacdkldpnpjonaaHoPair
set_option linter.unusedVariables false
set_option linter.unusedSimpArgs false
namespace Go.Proofs.Ytacdkldpnpjonaa
open Go.RowKit
attribute [local go_sem ↓] Go.wp_at_zero Go.wp_at_succ

def sendM (m : List (Bool × Int)) (x : Bool × Int) : List (Bool × Int) := if m.length < 40 then m ++ [x] else m
theorem sendM_if (m : List (Bool × Int)) (a : Bool) (n : Int) : (if m.length < 40 then m ++ [(a, n)] else m) = sendM m (a, n) := rfl
theorem sendM_if' (m m' : List (Bool × Int)) : (if m.length < 40 then m' else m') = m' := by split <;> rfl
def Stepped (w : World) (b : Nat) (r : Bool) (s0 c0 s1 c1 : Int) (m0 m1 : List (Bool × Int)) (e : Ending) (w' : World) : Prop :=
  e = .returned (.bool r) ∧ PairAt w' b s0 c0 s1 c1 m0 m1 ∧ Below b w w'
theorem ownsRow_after {w w' : World} {base : Nat} {E : TypeId} {size : Nat} {v : Value} {n : Nat} {xs : List Value} (h : w.ownsRow base E size v n xs) (hb : Below w.heap.size w w') : w'.ownsRow base E size v n xs :=
  h.kept (row := none) ⟨hb.os, hb.tape, hb.output, hb.size, fun k hk _ => hb.block k hk⟩ (by cases h' : v.ownBlock <;> simp)
theorem below_mid {b : Nat} {w W w' : World} (h : Below b w W) (hb : Below W.heap.size W w') (hB : b ≤ W.heap.size) : Below b w w' := h.trans (hb.mono hB)

set_option maxRecDepth 100000 in
set_option maxHeartbeats 1000000 in
theorem step00_any (b : Nat) (s0 c0 s1 c1 : Int) (m0 m1 : List (Bool × Int)) (i : Int) (w : World) (hP : PairAt w b s0 c0 s1 c1 m0 m1) :
    Calls Try.prog 11 #[.pointer (some ⟨b, 0, none⟩), .int .i64 0, .int .i64 0, .int .i64 i] w (if (give s0 c0).er = 0 then Stepped w b true (give s0 c0).st (give s0 c0).ct s1 c1 m0 (sendM m1 (false, (give s0 c0).nm)) else Stepped w b (decide ((give s0 c0).er = 11 ∧ s0 ≠ 1)) s0 c0 s1 c1 m0 m1) := by
  obtain ⟨v0, v1, hblk, ho0, ho1, hdis⟩ := hP
  obtain ⟨a0, k0, e0, -, -, -, -⟩ := ownsRow_at ho0 _ (flat_get m0)
  obtain ⟨a1, k1, e1, -, -, -, -⟩ := ownsRow_at ho1 _ (flat_get m1)
  subst e0 e1
  have hlt := hblk.lt
  have x0 := hblk.get 0 _ rfl
  have x1 := hblk.get 1 _ rfl
  have HBlk := Lib.hid hblk; clear hblk
  have HO0 := Lib.hid ho0; have HO1 := Lib.hid ho1; clear ho0 ho1
  have HD := Lib.hid hdis; clear hdis
  generalize hg : give s0 c0 = r
  obtain ⟨gs, gc, gn, ge⟩ := r
  simp only []
  have HG := Lib.hid hg; clear hg
  by_cases he : ge = 0
  · subst he
    rw [if_pos rfl]
    go_enter Try.func11, Try.ntmps11
    go_wp2_with fail
    refine (give_any _ _ _).mono ?_
    rintro e w1 ⟨rfl, hb⟩
    rw [HG.out]; unfold GR.val; simp only []
    have B1 := Lib.hid ((HBlk.out.alloc _).after hb)
    have P0 := Lib.hid (ownsRow_after (HO0.out.alloc _) hb)
    have P1 := Lib.hid (ownsRow_after (HO1.out.alloc _) hb)
    have lt1 := B1.out.lt
    have u0 := B1.out.get 0 _ rfl
    have u1 := B1.out.get 1 _ rfl
    have f0 := B1.out.free 0
    have f1 := B1.out.free 1
    have hB : Below b w w1 := below_mid (by go_grown) hb (by simp; omega)
    clear hb
    go_wp2_with fail
    go_region
    go_wp2_with fail
    refine (send0_any b gs gc s1 c1 m0 m1 _ _ _ ?_).mono ?_
    · exact ⟨_, _, (((Blk.set (Blk.set B1.out 0 _) 1 _).alloc _).alloc _).drew, (((ownsRow_setCell_below (ownsRow_setCell_below P0.out (Nat.lt_succ_self b) _) (Nat.lt_succ_self b) _).alloc _).alloc _).drew, (((ownsRow_setCell_below (ownsRow_setCell_below P1.out (Nat.lt_succ_self b) _) (Nat.lt_succ_self b) _).alloc _).alloc _).drew, HD.out⟩
    rintro e w2 ⟨rfl, hp, hb2⟩
    have HP := Lib.hid hp; clear hp
    have hB2 : Below b w w2 := Below.trans (by go_grown) hb2
    clear hb2
    go_wp2_with fail
    go_returns
    exact ⟨rfl, by rw [sendM_if, sendM_if'] at HP; exact HP.out, hB2⟩
  · rw [if_neg he]
    have hne : (ge != 0) = true := by simpa using he
    have hfin : ((ge == 11) && (s0 != 1)) = decide (ge = 11 ∧ s0 ≠ 1) := by
      by_cases q1 : ge = 11 <;> by_cases q2 : s0 = 1 <;> simp [q1, q2]
    have HFin := Lib.hid hfin
    have HE := Lib.hid he; clear he hfin
    by_cases q1 : ge = 11
    · have q1' : (ge == 11) = true := by simpa using q1
      have Q1 := Lib.hid q1; clear q1
      go_enter Try.func11, Try.ntmps11
      go_wp2_with fail
      refine (give_any _ _ _).mono ?_
      rintro e w1 ⟨rfl, hb⟩
      rw [HG.out]; unfold GR.val; simp only []
      have B1 := Lib.hid ((HBlk.out.alloc _).after hb)
      have B9 := Lib.hid (Blk.after (Blk.new w _) hb)
      have P0 := Lib.hid (ownsRow_after (HO0.out.alloc _) hb)
      have P1 := Lib.hid (ownsRow_after (HO1.out.alloc _) hb)
      have lt9 := B9.out.lt
      have u9 := B9.out.get 0 _ rfl
      have hB : Below b w w1 := below_mid (by go_grown) hb (by simp; omega)
      clear hb
      go_wp2_with fail
      go_returns
      exact ⟨ret_bool (by rw [← HFin.out, q1']; rfl), ⟨_, _, (B1.out.alloc _).alloc _, (P0.out.alloc _).alloc _, (P1.out.alloc _).alloc _, HD.out⟩, by go_grown⟩
    · have q1' : (ge == 11) = false := by simpa using q1
      have Q1 := Lib.hid q1; clear q1
      go_enter Try.func11, Try.ntmps11
      go_wp2_with fail
      refine (give_any _ _ _).mono ?_
      rintro e w1 ⟨rfl, hb⟩
      rw [HG.out]; unfold GR.val; simp only []
      have B1 := Lib.hid ((HBlk.out.alloc _).after hb)
      have lt1 := B1.out.lt
      have P0 := Lib.hid (ownsRow_after (HO0.out.alloc _) hb)
      have P1 := Lib.hid (ownsRow_after (HO1.out.alloc _) hb)
      have hB : Below b w w1 := below_mid (by go_grown) hb (by simp; omega)
      clear hb
      go_wp2_with fail
      go_returns
      exact ⟨ret_bool (by rw [← HFin.out, q1']; rfl), ⟨_, _, (B1.out.alloc _).alloc _, (P0.out.alloc _).alloc _, (P1.out.alloc _).alloc _, HD.out⟩, by go_grown⟩

set_option maxRecDepth 100000 in
set_option maxHeartbeats 1000000 in
theorem step01_any (b : Nat) (s0 c0 s1 c1 : Int) (m0 m1 : List (Bool × Int)) (i : Int) (w : World) (hP : PairAt w b s0 c0 s1 c1 m0 m1) :
    Calls Try.prog 11 #[.pointer (some ⟨b, 0, none⟩), .int .i64 0, .int .i64 1, .int .i64 i] w (if (give s1 c1).er = 0 then Stepped w b true s0 c0 (give s1 c1).st (give s1 c1).ct (sendM m0 (false, (give s1 c1).nm)) m1 else Stepped w b (decide ((give s1 c1).er = 11 ∧ s1 ≠ 1)) s0 c0 s1 c1 m0 m1) := by
  obtain ⟨v0, v1, hblk, ho0, ho1, hdis⟩ := hP
  obtain ⟨a0, k0, e0, -, -, -, -⟩ := ownsRow_at ho0 _ (flat_get m0)
  obtain ⟨a1, k1, e1, -, -, -, -⟩ := ownsRow_at ho1 _ (flat_get m1)
  subst e0 e1
  have hlt := hblk.lt
  have x2 := hblk.get 2 _ rfl
  have x3 := hblk.get 3 _ rfl
  have HBlk := Lib.hid hblk; clear hblk
  have HO0 := Lib.hid ho0; have HO1 := Lib.hid ho1; clear ho0 ho1
  have HD := Lib.hid hdis; clear hdis
  generalize hg : give s1 c1 = r
  obtain ⟨gs, gc, gn, ge⟩ := r
  simp only []
  have HG := Lib.hid hg; clear hg
  by_cases he : ge = 0
  · subst he
    rw [if_pos rfl]
    go_enter Try.func11, Try.ntmps11
    go_wp2_with fail
    refine (give_any _ _ _).mono ?_
    rintro e w1 ⟨rfl, hb⟩
    rw [HG.out]; unfold GR.val; simp only []
    have B1 := Lib.hid ((HBlk.out.alloc _).after hb)
    have P0 := Lib.hid (ownsRow_after (HO0.out.alloc _) hb)
    have P1 := Lib.hid (ownsRow_after (HO1.out.alloc _) hb)
    have lt1 := B1.out.lt
    have u2 := B1.out.get 2 _ rfl
    have u3 := B1.out.get 3 _ rfl
    have f2 := B1.out.free 2
    have f3 := B1.out.free 3
    have hB : Below b w w1 := below_mid (by go_grown) hb (by simp; omega)
    clear hb
    go_wp2_with fail
    go_region
    go_wp2_with fail
    refine (send1_any b s0 c0 gs gc m0 m1 _ _ _ ?_).mono ?_
    · exact ⟨_, _, (((Blk.set (Blk.set B1.out 2 _) 3 _).alloc _).alloc _).drew, (((ownsRow_setCell_below (ownsRow_setCell_below P0.out (Nat.lt_succ_self b) _) (Nat.lt_succ_self b) _).alloc _).alloc _).drew, (((ownsRow_setCell_below (ownsRow_setCell_below P1.out (Nat.lt_succ_self b) _) (Nat.lt_succ_self b) _).alloc _).alloc _).drew, HD.out⟩
    rintro e w2 ⟨rfl, hp, hb2⟩
    have HP := Lib.hid hp; clear hp
    have hB2 : Below b w w2 := Below.trans (by go_grown) hb2
    clear hb2
    go_wp2_with fail
    go_returns
    exact ⟨rfl, by rw [sendM_if, sendM_if'] at HP; exact HP.out, hB2⟩
  · rw [if_neg he]
    have hne : (ge != 0) = true := by simpa using he
    have hfin : ((ge == 11) && (s1 != 1)) = decide (ge = 11 ∧ s1 ≠ 1) := by
      by_cases q1 : ge = 11 <;> by_cases q2 : s1 = 1 <;> simp [q1, q2]
    have HFin := Lib.hid hfin
    have HE := Lib.hid he; clear he hfin
    by_cases q1 : ge = 11
    · have q1' : (ge == 11) = true := by simpa using q1
      have Q1 := Lib.hid q1; clear q1
      go_enter Try.func11, Try.ntmps11
      go_wp2_with fail
      refine (give_any _ _ _).mono ?_
      rintro e w1 ⟨rfl, hb⟩
      rw [HG.out]; unfold GR.val; simp only []
      have B1 := Lib.hid ((HBlk.out.alloc _).after hb)
      have B9 := Lib.hid (Blk.after (Blk.new w _) hb)
      have P0 := Lib.hid (ownsRow_after (HO0.out.alloc _) hb)
      have P1 := Lib.hid (ownsRow_after (HO1.out.alloc _) hb)
      have lt9 := B9.out.lt
      have u9 := B9.out.get 0 _ rfl
      have hB : Below b w w1 := below_mid (by go_grown) hb (by simp; omega)
      clear hb
      go_wp2_with fail
      go_returns
      exact ⟨ret_bool (by rw [← HFin.out, q1']; rfl), ⟨_, _, (B1.out.alloc _).alloc _, (P0.out.alloc _).alloc _, (P1.out.alloc _).alloc _, HD.out⟩, by go_grown⟩
    · have q1' : (ge == 11) = false := by simpa using q1
      have Q1 := Lib.hid q1; clear q1
      go_enter Try.func11, Try.ntmps11
      go_wp2_with fail
      refine (give_any _ _ _).mono ?_
      rintro e w1 ⟨rfl, hb⟩
      rw [HG.out]; unfold GR.val; simp only []
      have B1 := Lib.hid ((HBlk.out.alloc _).after hb)
      have lt1 := B1.out.lt
      have P0 := Lib.hid (ownsRow_after (HO0.out.alloc _) hb)
      have P1 := Lib.hid (ownsRow_after (HO1.out.alloc _) hb)
      have hB : Below b w w1 := below_mid (by go_grown) hb (by simp; omega)
      clear hb
      go_wp2_with fail
      go_returns
      exact ⟨ret_bool (by rw [← HFin.out, q1']; rfl), ⟨_, _, (B1.out.alloc _).alloc _, (P0.out.alloc _).alloc _, (P1.out.alloc _).alloc _, HD.out⟩, by go_grown⟩

set_option maxRecDepth 100000 in
set_option maxHeartbeats 1000000 in
theorem step10_any (b : Nat) (s0 c0 s1 c1 : Int) (m0 m1 : List (Bool × Int)) (i : Int) (w : World) (hP : PairAt w b s0 c0 s1 c1 m0 m1) :
    Calls Try.prog 11 #[.pointer (some ⟨b, 0, none⟩), .int .i64 1, .int .i64 0, .int .i64 i] w (if (again s0 c0).2 = 0 then Stepped w b true s0 c0 s1 c1 m0 (sendM m1 (false, (again s0 c0).1)) else Stepped w b (decide ((again s0 c0).2 = 11 ∧ s0 ≠ 2)) s0 c0 s1 c1 m0 m1) := by
  obtain ⟨v0, v1, hblk, ho0, ho1, hdis⟩ := hP
  obtain ⟨a0, k0, e0, -, -, -, -⟩ := ownsRow_at ho0 _ (flat_get m0)
  obtain ⟨a1, k1, e1, -, -, -, -⟩ := ownsRow_at ho1 _ (flat_get m1)
  subst e0 e1
  have hlt := hblk.lt
  have x0 := hblk.get 0 _ rfl
  have x1 := hblk.get 1 _ rfl
  have HBlk := Lib.hid hblk; clear hblk
  have HO0 := Lib.hid ho0; have HO1 := Lib.hid ho1; clear ho0 ho1
  have HD := Lib.hid hdis; clear hdis
  generalize hg : again s0 c0 = r
  obtain ⟨gn, ge⟩ := r
  simp only []
  have HG := Lib.hid hg; clear hg
  by_cases he : ge = 0
  · subst he
    rw [if_pos rfl]
    go_enter Try.func11, Try.ntmps11
    go_wp2_with fail
    refine (again_any _ _ _).mono ?_
    rintro e w1 ⟨rfl, hb⟩
    rw [HG.out]; simp only []
    have B1 := Lib.hid ((HBlk.out.alloc _).after hb)
    have P0 := Lib.hid (ownsRow_after (HO0.out.alloc _) hb)
    have P1 := Lib.hid (ownsRow_after (HO1.out.alloc _) hb)
    have lt1 := B1.out.lt
    have u0 := B1.out.get 0 _ rfl
    have u1 := B1.out.get 1 _ rfl
    have f0 := B1.out.free 0
    have f1 := B1.out.free 1
    have hB : Below b w w1 := below_mid (by go_grown) hb (by simp; omega)
    clear hb
    go_wp2_with fail
    refine (send0_any b s0 c0 s1 c1 m0 m1 _ _ _ ?_).mono ?_
    · exact ⟨_, _, B1.out.alloc _, P0.out.alloc _, P1.out.alloc _, HD.out⟩
    rintro e w2 ⟨rfl, hp, hb2⟩
    have HP := Lib.hid hp; clear hp
    have hB2 : Below b w w2 := Below.trans (by go_grown) hb2
    clear hb2
    go_wp2_with fail
    go_returns
    exact ⟨rfl, by rw [sendM_if, sendM_if'] at HP; exact HP.out, hB2⟩
  · rw [if_neg he]
    have hne : (ge != 0) = true := by simpa using he
    have hfin : ((ge == 11) && (s0 != 2)) = decide (ge = 11 ∧ s0 ≠ 2) := by
      by_cases q1 : ge = 11 <;> by_cases q2 : s0 = 2 <;> simp [q1, q2]
    have HFin := Lib.hid hfin
    have HE := Lib.hid he; clear he hfin
    by_cases q1 : ge = 11
    · have q1' : (ge == 11) = true := by simpa using q1
      have Q1 := Lib.hid q1; clear q1
      go_enter Try.func11, Try.ntmps11
      go_wp2_with fail
      refine (again_any _ _ _).mono ?_
      rintro e w1 ⟨rfl, hb⟩
      rw [HG.out]; simp only []
      have B1 := Lib.hid ((HBlk.out.alloc _).after hb)
      have B9 := Lib.hid (Blk.after (Blk.new w _) hb)
      have P0 := Lib.hid (ownsRow_after (HO0.out.alloc _) hb)
      have P1 := Lib.hid (ownsRow_after (HO1.out.alloc _) hb)
      have lt9 := B9.out.lt
      have u9 := B9.out.get 0 _ rfl
      have hB : Below b w w1 := below_mid (by go_grown) hb (by simp; omega)
      clear hb
      go_wp2_with fail
      go_returns
      exact ⟨ret_bool (by rw [← HFin.out, q1']; rfl), ⟨_, _, B1.out.alloc _, P0.out.alloc _, P1.out.alloc _, HD.out⟩, by go_grown⟩
    · have q1' : (ge == 11) = false := by simpa using q1
      have Q1 := Lib.hid q1; clear q1
      go_enter Try.func11, Try.ntmps11
      go_wp2_with fail
      refine (again_any _ _ _).mono ?_
      rintro e w1 ⟨rfl, hb⟩
      rw [HG.out]; simp only []
      have B1 := Lib.hid ((HBlk.out.alloc _).after hb)
      have lt1 := B1.out.lt
      have P0 := Lib.hid (ownsRow_after (HO0.out.alloc _) hb)
      have P1 := Lib.hid (ownsRow_after (HO1.out.alloc _) hb)
      have hB : Below b w w1 := below_mid (by go_grown) hb (by simp; omega)
      clear hb
      go_wp2_with fail
      go_returns
      exact ⟨ret_bool (by rw [← HFin.out, q1']; rfl), ⟨_, _, B1.out.alloc _, P0.out.alloc _, P1.out.alloc _, HD.out⟩, by go_grown⟩

set_option maxRecDepth 100000 in
set_option maxHeartbeats 1000000 in
theorem step11_any (b : Nat) (s0 c0 s1 c1 : Int) (m0 m1 : List (Bool × Int)) (i : Int) (w : World) (hP : PairAt w b s0 c0 s1 c1 m0 m1) :
    Calls Try.prog 11 #[.pointer (some ⟨b, 0, none⟩), .int .i64 1, .int .i64 1, .int .i64 i] w (if (again s1 c1).2 = 0 then Stepped w b true s0 c0 s1 c1 (sendM m0 (false, (again s1 c1).1)) m1 else Stepped w b (decide ((again s1 c1).2 = 11 ∧ s1 ≠ 2)) s0 c0 s1 c1 m0 m1) := by
  obtain ⟨v0, v1, hblk, ho0, ho1, hdis⟩ := hP
  obtain ⟨a0, k0, e0, -, -, -, -⟩ := ownsRow_at ho0 _ (flat_get m0)
  obtain ⟨a1, k1, e1, -, -, -, -⟩ := ownsRow_at ho1 _ (flat_get m1)
  subst e0 e1
  have hlt := hblk.lt
  have x2 := hblk.get 2 _ rfl
  have x3 := hblk.get 3 _ rfl
  have HBlk := Lib.hid hblk; clear hblk
  have HO0 := Lib.hid ho0; have HO1 := Lib.hid ho1; clear ho0 ho1
  have HD := Lib.hid hdis; clear hdis
  generalize hg : again s1 c1 = r
  obtain ⟨gn, ge⟩ := r
  simp only []
  have HG := Lib.hid hg; clear hg
  by_cases he : ge = 0
  · subst he
    rw [if_pos rfl]
    go_enter Try.func11, Try.ntmps11
    go_wp2_with fail
    refine (again_any _ _ _).mono ?_
    rintro e w1 ⟨rfl, hb⟩
    rw [HG.out]; simp only []
    have B1 := Lib.hid ((HBlk.out.alloc _).after hb)
    have P0 := Lib.hid (ownsRow_after (HO0.out.alloc _) hb)
    have P1 := Lib.hid (ownsRow_after (HO1.out.alloc _) hb)
    have lt1 := B1.out.lt
    have u2 := B1.out.get 2 _ rfl
    have u3 := B1.out.get 3 _ rfl
    have f2 := B1.out.free 2
    have f3 := B1.out.free 3
    have hB : Below b w w1 := below_mid (by go_grown) hb (by simp; omega)
    clear hb
    go_wp2_with fail
    refine (send1_any b s0 c0 s1 c1 m0 m1 _ _ _ ?_).mono ?_
    · exact ⟨_, _, B1.out.alloc _, P0.out.alloc _, P1.out.alloc _, HD.out⟩
    rintro e w2 ⟨rfl, hp, hb2⟩
    have HP := Lib.hid hp; clear hp
    have hB2 : Below b w w2 := Below.trans (by go_grown) hb2
    clear hb2
    go_wp2_with fail
    go_returns
    exact ⟨rfl, by rw [sendM_if, sendM_if'] at HP; exact HP.out, hB2⟩
  · rw [if_neg he]
    have hne : (ge != 0) = true := by simpa using he
    have hfin : ((ge == 11) && (s1 != 2)) = decide (ge = 11 ∧ s1 ≠ 2) := by
      by_cases q1 : ge = 11 <;> by_cases q2 : s1 = 2 <;> simp [q1, q2]
    have HFin := Lib.hid hfin
    have HE := Lib.hid he; clear he hfin
    by_cases q1 : ge = 11
    · have q1' : (ge == 11) = true := by simpa using q1
      have Q1 := Lib.hid q1; clear q1
      go_enter Try.func11, Try.ntmps11
      go_wp2_with fail
      refine (again_any _ _ _).mono ?_
      rintro e w1 ⟨rfl, hb⟩
      rw [HG.out]; simp only []
      have B1 := Lib.hid ((HBlk.out.alloc _).after hb)
      have B9 := Lib.hid (Blk.after (Blk.new w _) hb)
      have P0 := Lib.hid (ownsRow_after (HO0.out.alloc _) hb)
      have P1 := Lib.hid (ownsRow_after (HO1.out.alloc _) hb)
      have lt9 := B9.out.lt
      have u9 := B9.out.get 0 _ rfl
      have hB : Below b w w1 := below_mid (by go_grown) hb (by simp; omega)
      clear hb
      go_wp2_with fail
      go_returns
      exact ⟨ret_bool (by rw [← HFin.out, q1']; rfl), ⟨_, _, B1.out.alloc _, P0.out.alloc _, P1.out.alloc _, HD.out⟩, by go_grown⟩
    · have q1' : (ge == 11) = false := by simpa using q1
      have Q1 := Lib.hid q1; clear q1
      go_enter Try.func11, Try.ntmps11
      go_wp2_with fail
      refine (again_any _ _ _).mono ?_
      rintro e w1 ⟨rfl, hb⟩
      rw [HG.out]; simp only []
      have B1 := Lib.hid ((HBlk.out.alloc _).after hb)
      have lt1 := B1.out.lt
      have P0 := Lib.hid (ownsRow_after (HO0.out.alloc _) hb)
      have P1 := Lib.hid (ownsRow_after (HO1.out.alloc _) hb)
      have hB : Below b w w1 := below_mid (by go_grown) hb (by simp; omega)
      clear hb
      go_wp2_with fail
      go_returns
      exact ⟨ret_bool (by rw [← HFin.out, q1']; rfl), ⟨_, _, B1.out.alloc _, P0.out.alloc _, P1.out.alloc _, HD.out⟩, by go_grown⟩

end Go.Proofs.Ytacdkldpnpjonaa
