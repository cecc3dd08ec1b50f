/- What the functions of package handover return, for every input. -/
import Derived.Test.YtacdkldpnpjonaaBase
set_option linter.unusedVariables false
set_option linter.unusedSimpArgs false
namespace Go.Proofs.Ytacdkldpnpjonaa
open Go.RowKit

def chk (s c : Int) : Int := if s < 0 ∨ 2 < s then 1 else if c < 0 ∨ 2000 < c then 4 else 0

set_option maxHeartbeats 400000 in
theorem check_any (s c : Int) (w : World) :
    Calls Try.prog 17 #[.agg #[.int .i64 s, .int .i64 c]] w fun e w' => e = .returned (.int .i64 (chk s c)) ∧ w.alloc (.cells #[.int .i64 s, .int .i64 c] 23) = w' := by
  go_enter Try.func17, Try.ntmps17
  go_wp2
  all_goals
    go_ret
    exact ⟨ret_int (by unfold chk; repeat' split <;> omega), rfl⟩


structure HR where
  st : Int
  ct : Int
  ak : Bool
  nm : Int
  is : Bool
  er : Int

def hear (s c n : Int) (a : Bool) : HR :=
  if chk s c ≠ 0 then ⟨0, 0, false, 0, false, chk s c⟩ else
  if n < 1 ∨ 2000 < n then ⟨0, 0, false, 0, false, 4⟩ else
  if a = true then (if s = 2 ∧ n = c + 1 then ⟨0, n, false, 0, false, 0⟩ else ⟨s, c, false, 0, false, 0⟩) else
  if s = 2 ∧ n = c + 2 then ⟨1, n, true, n, true, 0⟩ else
  if s = 0 ∧ n = c + 1 then ⟨1, n, true, n, true, 0⟩ else
  if n ≤ c then ⟨s, c, true, n, true, 0⟩ else ⟨s, c, false, 0, false, 0⟩

def HR.val (r : HR) : Value := .tuple #[.agg #[.int .i64 r.st, .int .i64 r.ct], .agg #[.bool r.ak, .int .i64 r.nm], .bool r.is, .int .i64 r.er]

theorem chk_zero (s c : Int) : chk s c = 0 ↔ (0 ≤ s ∧ s ≤ 2 ∧ 0 ≤ c ∧ c ≤ 2000) := by
  unfold chk; constructor
  · intro h; split at h
    · omega
    · split at h <;> omega
  · intro h; rw [if_neg (by omega), if_neg (by omega)]


set_option maxHeartbeats 1000000 in
theorem hear_any (s c n : Int) (a : Bool) (w : World) :
    Calls Try.prog 7 #[.agg #[.int .i64 s, .int .i64 c], .agg #[.bool a, .int .i64 n]] w fun e w' => e = .returned (hear s c n a).val ∧ Below w.heap.size w w' := by
  generalize hr : (hear s c n a).val = r
  have HR := Lib.hid hr; clear hr
  go_enter Try.func7, Try.ntmps7
  go_wp2_with fail
  refine (check_any _ _ _).mono ?_
  rintro e w1 ⟨rfl, rfl⟩
  generalize hk : chk s c = k
  by_cases h0 : k = 0
  · subst h0
    have hz := (chk_zero s c).1 hk
    have HK := Lib.hid hk; clear hk
    obtain ⟨b1, b2, b3, b4⟩ := hz
    cases a
    all_goals
      go_wp2_with fail
    all_goals (try (go_region; go_wp2))
    all_goals
      go_returns
      refine ⟨ret_eq ?_, by go_grown⟩
      rw [← HR.out]; clear HR
      have hk := HK.out
      try simp only [beq_iff_eq, beq_eq_false_iff_ne, ne_eq] at *
      unfold HR.val hear
      rw [if_neg (by omega)]
      repeat' split
      all_goals first | rfl | (exfalso; omega) | (exfalso; simp_all; done) | (simp; omega)
  · have HK := Lib.hid hk; clear hk
    have hk' : (k == 0) = false := by simpa using h0
    have hk2 : (k != 0) = true := by simpa using h0
    have HH := Lib.hid h0; clear h0
    go_wp2_with fail
    go_returns
    refine ⟨ret_eq ?_, by go_grown⟩
    rw [← HR.out, hear, if_pos (by rw [HK.out]; exact HH.out), HK.out]
    rfl


set_option maxHeartbeats 400000 in
theorem begin_any (w : World) :
    Calls Try.prog 14 #[] w fun e w' => e = .returned (.tuple #[.agg #[.int .i64 1, .int .i64 0], .agg #[.int .i64 0, .int .i64 0]]) ∧ Below w.heap.size w w' := by
  go_enter Try.func14, Try.ntmps14
  go_wp2
  go_returns
  exact ⟨rfl, by go_grown⟩

structure GR where
  st : Int
  ct : Int
  nm : Int
  er : Int
def give (s c : Int) : GR :=
  if chk s c ≠ 0 then ⟨0, 0, 0, chk s c⟩ else if s ≠ 1 then ⟨0, 0, 0, 11⟩ else if c = 2000 then ⟨0, 0, 0, 2⟩ else ⟨2, c, c + 1, 0⟩
def GR.val (r : GR) : Value := .tuple #[.agg #[.int .i64 r.st, .int .i64 r.ct], .agg #[.bool false, .int .i64 r.nm], .int .i64 r.er]

set_option maxHeartbeats 400000 in
theorem give_any (s c : Int) (w : World) :
    Calls Try.prog 15 #[.agg #[.int .i64 s, .int .i64 c]] w fun e w' => e = .returned (give s c).val ∧ Below w.heap.size w w' := by
  generalize hr : (give s c).val = r
  have HR := Lib.hid hr; clear hr
  go_enter Try.func15, Try.ntmps15
  go_wp2_with fail
  refine (check_any _ _ _).mono ?_
  rintro e w1 ⟨rfl, rfl⟩
  generalize hk : chk s c = k
  by_cases h0 : k = 0
  · subst h0
    have hz := (chk_zero s c).1 hk
    have HK := Lib.hid hk; clear hk
    obtain ⟨b1, b2, b3, b4⟩ := hz
    go_wp2_with fail
    all_goals (try (go_region; go_wp2))
    all_goals
      go_returns
      refine ⟨ret_eq ?_, by go_grown⟩
      rw [← HR.out]; clear HR
      have hk := HK.out
      try simp only [beq_iff_eq, beq_eq_false_iff_ne, bne_iff_ne, bne_eq_false_iff_eq, ne_eq] at *
      unfold GR.val give
      rw [if_neg (by omega)]
      repeat' split
      all_goals first | rfl | (exfalso; omega) | (exfalso; simp_all; done) | (simp; omega)
  · have HK := Lib.hid hk; clear hk
    have hk' : (k == 0) = false := by simpa using h0
    have hk2 : (k != 0) = true := by simpa using h0
    have HH := Lib.hid h0; clear h0
    go_wp2_with fail
    go_returns
    refine ⟨ret_eq ?_, by go_grown⟩
    rw [← HR.out, give, if_pos (by rw [HK.out]; exact HH.out), HK.out]
    rfl

def again (s c : Int) : Int × Int := if chk s c ≠ 0 then (0, chk s c) else if s ≠ 2 then (0, 11) else (c + 1, 0)

set_option maxHeartbeats 400000 in
theorem again_any (s c : Int) (w : World) :
    Calls Try.prog 16 #[.agg #[.int .i64 s, .int .i64 c]] w fun e w' => e = .returned (.tuple #[.agg #[.bool false, .int .i64 (again s c).1], .int .i64 (again s c).2]) ∧ Below w.heap.size w w' := by
  generalize hr : again s c = r
  have HR := Lib.hid hr; clear hr
  go_enter Try.func16, Try.ntmps16
  go_wp2_with fail
  refine (check_any _ _ _).mono ?_
  rintro e w1 ⟨rfl, rfl⟩
  generalize hk : chk s c = k
  by_cases h0 : k = 0
  · subst h0
    have hz := (chk_zero s c).1 hk
    have HK := Lib.hid hk; clear hk
    obtain ⟨b1, b2, b3, b4⟩ := hz
    go_wp2_with fail
    all_goals (try (go_region; go_wp2))
    all_goals
      go_returns
      refine ⟨ret_eq ?_, by go_grown⟩
      rw [← HR.out]; clear HR
      have hk := HK.out
      try simp only [beq_iff_eq, beq_eq_false_iff_ne, bne_iff_ne, bne_eq_false_iff_eq, ne_eq] at *
      unfold again
      rw [if_neg (by omega)]
      repeat' split
      all_goals first | rfl | (exfalso; omega) | (exfalso; simp_all; done) | (simp; omega)
  · have HK := Lib.hid hk; clear hk
    have hk' : (k == 0) = false := by simpa using h0
    have hk2 : (k != 0) = true := by simpa using h0
    have HH := Lib.hid h0; clear h0
    go_wp2_with fail
    go_returns
    refine ⟨ret_eq ?_, by go_grown⟩
    rw [← HR.out, again, if_pos (by rw [HK.out]; exact HH.out), HK.out]

def acts (s c : Int) : Bool := decide (chk s c = 0 ∧ s = 1)
set_option maxHeartbeats 400000 in
theorem acts_any (s c : Int) (w : World) :
    Calls Try.prog 13 #[.agg #[.int .i64 s, .int .i64 c]] w fun e w' => e = .returned (.bool (acts s c)) ∧ Below w.heap.size w w' := by
  generalize hr : acts s c = r
  have HR := Lib.hid hr; clear hr
  go_enter Try.func13, Try.ntmps13
  go_wp2_with fail
  refine (check_any _ _ _).mono ?_
  rintro e w1 ⟨rfl, rfl⟩
  generalize hk : chk s c = k
  by_cases h0 : k = 0
  · subst h0
    have HK := Lib.hid hk; clear hk
    by_cases h1 : s = 1
    · have hs : (s == 1) = true := by simpa using h1
      have H1 := Lib.hid h1; clear h1
      go_wp2_with fail
      go_returns
      refine ⟨ret_eq ?_, by go_grown⟩
      rw [← HR.out, acts, decide_eq_true ⟨HK.out, H1.out⟩]; rfl
    · have hs : (s == 1) = false := by simpa using h1
      have H1 := Lib.hid h1; clear h1
      go_wp2_with fail
      go_returns
      refine ⟨ret_eq ?_, by go_grown⟩
      rw [← HR.out, acts, decide_eq_false (fun h => H1.out h.2)]; rfl
  · have HK := Lib.hid hk; clear hk
    have hk' : (k == 0) = false := by simpa using h0
    have HH := Lib.hid h0; clear h0
    go_wp2_with fail
    go_returns
    refine ⟨ret_eq ?_, by go_grown⟩
    rw [← HR.out, acts, decide_eq_false (fun h => HH.out (HK.out.symm.trans h.1))]; rfl

def rank (s c : Int) : Int := if s = 0 then 2 * c else 2 * c + 1
def resp (s c s' c' : Int) : Int × Int :=
  if chk s c ≠ 0 then (0, chk s c) else if chk s' c' ≠ 0 then (0, chk s' c') else
  if rank s c > rank s' c' then (0, 0) else if rank s c < rank s' c' then (1, 0) else (0, 11)

set_option maxHeartbeats 400000 in
theorem rank_any (s c : Int) (w : World) (h1 : 0 ≤ c) (h2 : c ≤ 2000) :
    Calls Try.prog 22 #[.agg #[.int .i64 s, .int .i64 c]] w fun e w' => e = .returned (.int .i64 (rank s c)) ∧ w.alloc (.cells #[.int .i64 s, .int .i64 c] 23) = w' := by
  go_enter Try.func22, Try.ntmps22
  go_wp2
  all_goals
    go_ret
    refine ⟨ret_int ?_, rfl⟩
    try simp only [beq_iff_eq, beq_eq_false_iff_ne, bne_iff_ne, bne_eq_false_iff_eq, ne_eq] at *
    unfold rank; split <;> first | omega | contradiction

theorem resp_gt {s c s' c' : Int} (h1 : chk s c = 0) (h2 : chk s' c' = 0) (h : rank s' c' < rank s c) : resp s c s' c' = (0, 0) := by
  simp [resp, h1, h2, h]
theorem resp_lt {s c s' c' : Int} (h1 : chk s c = 0) (h2 : chk s' c' = 0) (h : rank s c < rank s' c') : resp s c s' c' = (1, 0) := by
  simp [resp, h1, h2, h]; omega
theorem resp_eq {s c s' c' : Int} (h1 : chk s c = 0) (h2 : chk s' c' = 0) (h : rank s c ≤ rank s' c') (h' : rank s' c' ≤ rank s c) : resp s c s' c' = (0, 11) := by
  have e : ¬ rank s' c' < rank s c := by omega
  have e' : ¬ rank s c < rank s' c' := by omega
  simp [resp, h1, h2, e, e']

set_option maxHeartbeats 1000000 in
theorem resp_any (s c s' c' : Int) (w : World) :
    Calls Try.prog 12 #[.agg #[.int .i64 s, .int .i64 c], .agg #[.int .i64 s', .int .i64 c']] w fun e w' => e = .returned (.tuple #[.int .i64 (resp s c s' c').1, .int .i64 (resp s c s' c').2]) ∧ Below w.heap.size w w' := by
  generalize hr : resp s c s' c' = r
  have HR := Lib.hid hr; clear hr
  by_cases h1 : chk s c = 0
  · have hz := (chk_zero s c).1 h1
    obtain ⟨a1, a2, a3, a4⟩ := hz
    by_cases h2 : chk s' c' = 0
    · have hz := (chk_zero s' c').1 h2
      obtain ⟨b1, b2, b3, b4⟩ := hz
      have H1 := Lib.hid h1
      have H2 := Lib.hid h2
      go_enter Try.func12, Try.ntmps12
      go_wp2_with fail
      refine wp_loop_rounds 3 ?_
      rw [rounds_succ]
      go_wp2_with (go_at_call 17; refine (check_any _ _ _).mono ?_; rintro e w1 ⟨rfl, rfl⟩)
      rw [rounds_succ]
      go_wp2_with (go_at_call 17; refine (check_any _ _ _).mono ?_; rintro e w1 ⟨rfl, rfl⟩)
      rw [rounds_succ]
      go_wp2
      go_region_with (go_at_call 22; refine (rank_any _ _ _ (by omega) (by omega)).mono ?_; rintro e w1 ⟨rfl, rfl⟩)
      all_goals go_wp2
      all_goals
        go_returns
        refine ⟨ret_eq ?_, by go_grown⟩
        rw [← HR.out]; clear HR
        first | (rw [resp_gt H1.out H2.out ‹_›]; rfl) | (rw [resp_lt H1.out H2.out ‹_›]; rfl) | (rw [resp_eq H1.out H2.out ‹_› ‹_›]; rfl)
    · have hk2 : (chk s' c' != 0) = true := by simpa using h2
      have H2 := Lib.hid h2; clear h2
      go_enter Try.func12, Try.ntmps12
      go_wp2_with fail
      refine wp_loop_rounds 3 ?_
      rw [rounds_succ]
      go_wp2_with (go_at_call 17; refine (check_any _ _ _).mono ?_; rintro e w1 ⟨rfl, rfl⟩)
      rw [rounds_succ]
      go_wp2_with (go_at_call 17; refine (check_any _ _ _).mono ?_; rintro e w1 ⟨rfl, rfl⟩)
      go_returns
      refine ⟨ret_eq ?_, by go_grown⟩
      rw [← HR.out, resp, if_neg (by omega), if_pos H2.out]
      rfl
  · have hk2 : (chk s c != 0) = true := by simpa using h1
    have H1 := Lib.hid h1; clear h1
    go_enter Try.func12, Try.ntmps12
    go_wp2_with fail
    refine wp_loop_rounds 3 ?_
    rw [rounds_succ]
    go_wp2_with (go_at_call 17; refine (check_any _ _ _).mono ?_; rintro e w1 ⟨rfl, rfl⟩)
    go_returns
    refine ⟨ret_eq ?_, by go_grown⟩
    rw [← HR.out, resp, if_pos H1.out]
    rfl

end Go.Proofs.Ytacdkldpnpjonaa
