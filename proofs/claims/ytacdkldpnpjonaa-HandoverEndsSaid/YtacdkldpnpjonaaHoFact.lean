/- The examples that handoverFact asks come out as it says. -/
import Derived.Test.YtacdkldpnpjonaaHo
set_option linter.unusedVariables false
set_option linter.unusedSimpArgs false
namespace Go.Proofs.Ytacdkldpnpjonaa
open Go.RowKit

theorem give_begin : (give 1 0).val = .tuple #[.agg #[.int .i64 2, .int .i64 0], .agg #[.bool false, .int .i64 1], .int .i64 0] := by rfl
theorem again_begin : again 2 0 = (1, 0) := by decide +kernel
theorem hear_begin : (hear 0 0 1 false).val = .tuple #[.agg #[.int .i64 1, .int .i64 1], .agg #[.bool true, .int .i64 1], .bool true, .int .i64 0] := by rfl
theorem resp_begin : resp 2 0 1 1 = (1, 0) := by decide +kernel
theorem hear_ack : (hear 2 0 1 true).val = .tuple #[.agg #[.int .i64 0, .int .i64 1], .agg #[.bool false, .int .i64 0], .bool false, .int .i64 0] := by rfl
theorem acts_yes : acts 1 1 = true := by decide +kernel
theorem acts_no : acts 2 0 = false := by decide +kernel
theorem chk_no : chk 3 0 = 1 := by decide +kernel

set_option maxRecDepth 100000 in
set_option maxHeartbeats 1000000 in
theorem fact_any (w : World) :
    Calls Try.prog 6 #[] w fun e w' => e = .returned (.bool true) ∧ Below w.heap.size w w' := by
  go_enter Try.func6, Try.ntmps6
  go_wp2_with fail
  refine (begin_any _).mono ?_
  rintro e w1 ⟨rfl, hb⟩
  have HB : Below w.heap.size w w1 := Below.step (by go_grown) hb (by go_size)
  have hz := HB.size
  clear hb
  go_wp2_with fail
  refine (give_any _ _ _).mono ?_
  rintro e w2 ⟨rfl, hb⟩
  rw [give_begin]
  have Ba := Blk.after ((Blk.new w1 _).alloc _) hb
  have Bb := Blk.after (Blk.new (w1.alloc _) _) hb
  simp only [World.size_alloc] at Bb
  obtain ⟨la, ca0, ca1, fa0, fa1⟩ := Ba.two
  obtain ⟨lb, cb0, cb1, fb0, fb1⟩ := Bb.two
  replace HB : Below w.heap.size w w2 := Below.step (by go_grown) hb (by go_size)
  replace hz := HB.size
  clear hb
  go_wp2_with fail
  refine (again_any _ _ _).mono ?_
  rintro e w3 ⟨rfl, hb⟩
  rw [again_begin]
  clear la ca0 ca1 fa0 fa1 Ba
  clear lb cb0 cb1 fb0 fb1
  replace Bb := Blk.after ((Bb.alloc _).alloc _) hb
  have Bx := Blk.after ((Blk.new w2 _).alloc _) hb
  have Bm := Blk.after (Blk.new (w2.alloc _) _) hb
  simp only [World.size_alloc] at Bm
  obtain ⟨lb, cb0, cb1, fb0, fb1⟩ := Bb.two
  obtain ⟨lx, cx0, cx1, fx0, fx1⟩ := Bx.two
  obtain ⟨lm, cm0, cm1, fm0, fm1⟩ := Bm.two
  replace HB : Below w.heap.size w w3 := Below.step (by go_grown) hb (by go_size)
  replace hz := HB.size
  clear hb
  go_wp2_with fail
  refine (hear_any _ _ _ _ _).mono ?_
  rintro e w4 ⟨rfl, hb⟩
  rw [hear_begin]
  clear lb cb0 cb1 fb0 fb1
  replace Bb := Blk.after (Bb.alloc _) hb
  clear lx cx0 cx1 fx0 fx1
  replace Bx := Blk.after (Bx.alloc _) hb
  clear lm cm0 cm1 fm0 fm1
  replace Bm := Blk.after (Bm.alloc _) hb
  have Bg := Blk.after (Blk.new w3 _) hb
  obtain ⟨lb, cb0, cb1, fb0, fb1⟩ := Bb.two
  obtain ⟨lx, cx0, cx1, fx0, fx1⟩ := Bx.two
  obtain ⟨lm, cm0, cm1, fm0, fm1⟩ := Bm.two
  obtain ⟨lg, cg0, cg1, fg0, fg1⟩ := Bg.two
  replace HB : Below w.heap.size w w4 := Below.step (by go_grown) hb (by go_size)
  replace hz := HB.size
  clear hb
  go_wp2_with fail
  refine (resp_any _ _ _ _ _).mono ?_
  rintro e w5 ⟨rfl, hb⟩
  rw [resp_begin]
  clear lb cb0 cb1 fb0 fb1 Bb
  clear lx cx0 cx1 fx0 fx1
  replace Bx := Blk.after ((Bx.alloc _).alloc _) hb
  clear lm cm0 cm1 fm0 fm1
  replace Bm := Blk.after ((Bm.alloc _).alloc _) hb
  clear lg cg0 cg1 fg0 fg1
  replace Bg := Blk.after ((Bg.alloc _).alloc _) hb
  have By := Blk.after ((Blk.new w4 _).alloc _) hb
  have Bk := Blk.after (Blk.new (w4.alloc _) _) hb
  simp only [World.size_alloc] at Bk
  obtain ⟨lx, cx0, cx1, fx0, fx1⟩ := Bx.two
  obtain ⟨lm, cm0, cm1, fm0, fm1⟩ := Bm.two
  obtain ⟨lg, cg0, cg1, fg0, fg1⟩ := Bg.two
  obtain ⟨ly, cy0, cy1, fy0, fy1⟩ := By.two
  obtain ⟨lk, ck0, ck1, fk0, fk1⟩ := Bk.two
  replace HB : Below w.heap.size w w5 := Below.step (by go_grown) hb (by go_size)
  replace hz := HB.size
  clear hb
  go_wp2_with fail
  refine (hear_any _ _ _ _ _).mono ?_
  rintro e w6 ⟨rfl, hb⟩
  rw [hear_ack]
  clear lx cx0 cx1 fx0 fx1
  replace Bx := Blk.after Bx hb
  clear lm cm0 cm1 fm0 fm1
  replace Bm := Blk.after Bm hb
  clear lg cg0 cg1 fg0 fg1
  replace Bg := Blk.after Bg hb
  clear ly cy0 cy1 fy0 fy1
  replace By := Blk.after By hb
  clear lk ck0 ck1 fk0 fk1
  replace Bk := Blk.after Bk hb
  obtain ⟨lx, cx0, cx1, fx0, fx1⟩ := Bx.two
  obtain ⟨lm, cm0, cm1, fm0, fm1⟩ := Bm.two
  obtain ⟨lg, cg0, cg1, fg0, fg1⟩ := Bg.two
  obtain ⟨ly, cy0, cy1, fy0, fy1⟩ := By.two
  obtain ⟨lk, ck0, ck1, fk0, fk1⟩ := Bk.two
  replace HB : Below w.heap.size w w6 := Below.step (by go_grown) hb (by go_size)
  replace hz := HB.size
  clear hb
  go_wp2_with fail
  refine (acts_any _ _ _).mono ?_
  rintro e w7 ⟨rfl, hb⟩
  rw [acts_yes]
  clear lx cx0 cx1 fx0 fx1
  replace Bx := Blk.after ((Bx.alloc _).alloc _) hb
  clear lm cm0 cm1 fm0 fm1
  replace Bm := Blk.after ((Bm.alloc _).alloc _) hb
  clear lg cg0 cg1 fg0 fg1
  replace Bg := Blk.after ((Bg.alloc _).alloc _) hb
  clear ly cy0 cy1 fy0 fy1
  replace By := Blk.after ((By.alloc _).alloc _) hb
  clear lk ck0 ck1 fk0 fk1
  replace Bk := Blk.after ((Bk.alloc _).alloc _) hb
  have Bz := Blk.after ((Blk.new w6 _).alloc _) hb
  obtain ⟨lx, cx0, cx1, fx0, fx1⟩ := Bx.two
  obtain ⟨lm, cm0, cm1, fm0, fm1⟩ := Bm.two
  obtain ⟨lg, cg0, cg1, fg0, fg1⟩ := Bg.two
  obtain ⟨ly, cy0, cy1, fy0, fy1⟩ := By.two
  obtain ⟨lk, ck0, ck1, fk0, fk1⟩ := Bk.two
  obtain ⟨lz, cz0, cz1, fz0, fz1⟩ := Bz.two
  replace HB : Below w.heap.size w w7 := Below.step (by go_grown) hb (by go_size)
  replace hz := HB.size
  clear hb
  go_wp2_with fail
  refine (acts_any _ _ _).mono ?_
  rintro e w8 ⟨rfl, hb⟩
  rw [acts_no]
  clear lx cx0 cx1 fx0 fx1
  replace Bx := Blk.after Bx hb
  clear lm cm0 cm1 fm0 fm1
  replace Bm := Blk.after Bm hb
  clear lg cg0 cg1 fg0 fg1
  replace Bg := Blk.after Bg hb
  clear ly cy0 cy1 fy0 fy1
  replace By := Blk.after By hb
  clear lk ck0 ck1 fk0 fk1
  replace Bk := Blk.after Bk hb
  clear lz cz0 cz1 fz0 fz1
  replace Bz := Blk.after Bz hb
  obtain ⟨lx, cx0, cx1, fx0, fx1⟩ := Bx.two
  obtain ⟨lm, cm0, cm1, fm0, fm1⟩ := Bm.two
  obtain ⟨lg, cg0, cg1, fg0, fg1⟩ := Bg.two
  obtain ⟨ly, cy0, cy1, fy0, fy1⟩ := By.two
  obtain ⟨lk, ck0, ck1, fk0, fk1⟩ := Bk.two
  obtain ⟨lz, cz0, cz1, fz0, fz1⟩ := Bz.two
  replace HB : Below w.heap.size w w8 := Below.step (by go_grown) hb (by go_size)
  replace hz := HB.size
  clear hb
  go_wp2_with fail
  refine (check_any _ _ _).mono ?_
  rintro e w9 ⟨rfl, rfl⟩
  rw [chk_no]
  go_wp2_with fail
  go_returns
  exact ⟨rfl, by go_grown⟩

end Go.Proofs.Ytacdkldpnpjonaa
