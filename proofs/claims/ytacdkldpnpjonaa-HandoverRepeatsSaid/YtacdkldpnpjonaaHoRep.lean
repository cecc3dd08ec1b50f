/- A message that is heard twice has the effect of one: HandoverRepeats returns true at every input. -/
import Derived.Test.YtacdkldpnpjonaaHoFact
import Derived.ProofKit
import Derived.Lib.SmallJoins
namespace Go.Proofs.Ytacdkldpnpjonaa
open Go.RowKit

theorem rep_err (s c n : Int) (a : Bool) : (hear s c n a).er ≠ 0 → (hear s c n a).is = false := by
  intro h
  revert h
  unfold hear
  repeat' split
  all_goals simp

theorem rep_ok (s c n : Int) (a : Bool) : (hear s c n a).er = 0 →
    (hear (hear s c n a).st (hear s c n a).ct n a).er = 0 ∧ (hear s c n a).st = (hear (hear s c n a).st (hear s c n a).ct n a).st ∧ (hear s c n a).ct = (hear (hear s c n a).st (hear s c n a).ct n a).ct ∧
    ((hear s c n a).is = true → (hear (hear s c n a).st (hear s c n a).ct n a).is = true ∧ (hear s c n a).ak = (hear (hear s c n a).st (hear s c n a).ct n a).ak ∧ (hear s c n a).nm = (hear (hear s c n a).st (hear s c n a).ct n a).nm) ∧
    c ≤ (hear s c n a).ct := by
  intro h
  have hk : chk s c = 0 := by
    revert h; unfold hear; split
    · intro h; exact h
    · intro _; omega
  have hn : ¬ (n < 1 ∨ 2000 < n) := by
    revert h; unfold hear; rw [if_neg (by omega)]; split
    · intro h; exact absurd h (by decide)
    · intro _; assumption
  obtain ⟨b1, b2, b3, b4⟩ := (chk_zero s c).1 hk
  have key : ∀ s' c' : Int, chk s' c' = 0 → hear s' c' n a = (if a = true then (if s' = 2 ∧ n = c' + 1 then ⟨0, n, false, 0, false, 0⟩ else ⟨s', c', false, 0, false, 0⟩) else
      if s' = 2 ∧ n = c' + 2 then ⟨1, n, true, n, true, 0⟩ else
      if s' = 0 ∧ n = c' + 1 then ⟨1, n, true, n, true, 0⟩ else
      if n ≤ c' then ⟨s', c', true, n, true, 0⟩ else ⟨s', c', false, 0, false, 0⟩) := by
    intro s' c' h'
    unfold hear; rw [if_neg (by omega), if_neg hn]
  rw [key s c hk]
  by_cases ha : a = true
  · simp only [if_pos ha]
    by_cases h1 : s = 2 ∧ n = c + 1
    · simp only [if_pos h1]
      rw [key 0 n ((chk_zero _ _).2 (by omega)), if_pos ha, if_neg (by omega)]
      exact ⟨rfl, rfl, rfl, fun h => absurd h (by decide), by omega⟩
    · simp only [if_neg h1]
      rw [key s c hk, if_pos ha, if_neg h1]
      exact ⟨rfl, rfl, rfl, fun h => absurd h (by decide), by omega⟩
  · simp only [if_neg ha]
    by_cases h1 : s = 2 ∧ n = c + 2
    · simp only [if_pos h1]
      rw [key 1 n ((chk_zero _ _).2 (by omega)), if_neg ha, if_neg (by omega), if_neg (by omega), if_pos (by omega)]
      exact ⟨rfl, rfl, rfl, fun _ => ⟨rfl, rfl, rfl⟩, by omega⟩
    · simp only [if_neg h1]
      by_cases h2 : s = 0 ∧ n = c + 1
      · simp only [if_pos h2]
        rw [key 1 n ((chk_zero _ _).2 (by omega)), if_neg ha, if_neg (by omega), if_neg (by omega), if_pos (by omega)]
        exact ⟨rfl, rfl, rfl, fun _ => ⟨rfl, rfl, rfl⟩, by omega⟩
      · simp only [if_neg h2]
        by_cases h3 : n ≤ c
        · simp only [if_pos h3]
          rw [key s c hk, if_neg ha, if_neg h1, if_neg h2, if_pos h3]
          exact ⟨rfl, rfl, rfl, fun _ => ⟨rfl, rfl, rfl⟩, by omega⟩
        · simp only [if_neg h3]
          rw [key s c hk, if_neg ha, if_neg h1, if_neg h2, if_neg h3]
          exact ⟨rfl, rfl, rfl, fun h => absurd h (by decide), by omega⟩

set_option maxRecDepth 100000 in
set_option maxHeartbeats 1000000 in
theorem repeats_any (s c n : Int) (a : Bool) (w : World) :
    Calls Try.prog 3 #[.agg #[.int .i64 s, .int .i64 c], .agg #[.bool a, .int .i64 n]] w fun e w' => e = .returned (.bool true) ∧ Below w.heap.size w w' := by
  have h1 := rep_err s c n a
  have h2 := rep_ok s c n a
  generalize hr : hear s c n a = r at h1 h2
  obtain ⟨st, ct, ak, nm, is, er⟩ := r
  simp only at h1 h2
  generalize hq : hear st ct n a = q at h2
  obtain ⟨st2, ct2, ak2, nm2, is2, er2⟩ := q
  simp only at h2
  have Hr := Lib.hid hr; clear hr
  have Hq := Lib.hid hq; clear hq
  have H1 := Lib.hid h1; clear h1
  have H2 := Lib.hid h2; clear h2
  go_enter Try.func3, Try.ntmps3
  go_wp2_with fail
  refine (fact_any _).mono ?_
  rintro e w1 ⟨rfl, hb⟩
  have Bs := Blk.after ((Blk.new w _).alloc _) hb
  have Bm := Blk.after (Blk.new (w.alloc _) _) hb
  simp only [World.size_alloc] at Bm
  obtain ⟨ls, cs0, cs1, fs0, fs1⟩ := Bs.two
  obtain ⟨lm, cm0, cm1, fm0, fm1⟩ := Bm.two
  have HB : Below w.heap.size w w1 := Below.step (by go_grown) hb (by go_size)
  have hz := HB.size
  clear hb
  go_wp2_with fail
  refine (hear_any _ _ _ _ _).mono ?_
  rintro e w2 ⟨rfl, hb⟩
  rw [Hr.out]; unfold HR.val; simp only []
  clear ls cs0 cs1 fs0 fs1
  replace Bs := Blk.after Bs hb
  clear lm cm0 cm1 fm0 fm1
  replace Bm := Blk.after Bm hb
  obtain ⟨ls, cs0, cs1, fs0, fs1⟩ := Bs.two
  obtain ⟨lm, cm0, cm1, fm0, fm1⟩ := Bm.two
  replace HB : Below w.heap.size w w2 := Below.step (by go_grown) hb (by go_size)
  replace hz := HB.size
  clear hb
  by_cases he : er = 0
  · subst he
    obtain ⟨rfl, rfl, rfl, hi, hct⟩ := H2.out rfl
    go_wp2_with fail
    refine (hear_any _ _ _ _ _).mono ?_
    rintro e w3 ⟨rfl, hb⟩
    rw [Hq.out]; unfold HR.val; simp only []
    clear ls cs0 cs1 fs0 fs1
    replace Bs := Blk.after ((Bs.alloc _).alloc _) hb
    clear lm cm0 cm1 fm0 fm1
    replace Bm := Blk.after ((Bm.alloc _).alloc _) hb
    have Bt := Blk.after ((Blk.new w2 _).alloc _) hb
    have Ba := Blk.after (Blk.new (w2.alloc _) _) hb
    simp only [World.size_alloc] at Ba
    obtain ⟨ls, cs0, cs1, fs0, fs1⟩ := Bs.two
    obtain ⟨lm, cm0, cm1, fm0, fm1⟩ := Bm.two
    obtain ⟨lt, ct0, ct1, ft0, ft1⟩ := Bt.two
    obtain ⟨la, ca0, ca1, fa0, fa1⟩ := Ba.two
    replace HB : Below w.heap.size w w3 := Below.step (by go_grown) hb (by go_size)
    replace hz := HB.size
    clear hb
    cases is with
    | false =>
      have hi' := Lib.hid hi; clear hi
      go_wp2_with fail
      go_returns
      exact ⟨ret_bool (by simp [hct]), by go_grown⟩
    | true =>
      obtain ⟨rfl, rfl, rfl⟩ := hi rfl
      clear hi
      go_wp2_with fail
      go_returns
      exact ⟨ret_bool (by simp [hct]), by go_grown⟩
  · obtain rfl := H1.out he
    have hne : (er != 0) = true := by simpa using he
    have HE := Lib.hid he; clear he
    go_wp2_with fail
    go_returns
    exact ⟨rfl, by go_grown⟩

end Go.Proofs.Ytacdkldpnpjonaa
