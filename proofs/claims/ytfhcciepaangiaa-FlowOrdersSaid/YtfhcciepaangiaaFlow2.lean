/- What flow.index, At and Room return, for every input. -/
import Derived.Test.YtfhcciepaangiaaFlow1
import Derived.Test.YtfhcciepaangiaaFirst
set_option linter.unusedVariables false
set_option linter.unusedSimpArgs false
namespace Go.Proofs.Ytfhcciepaangiaa
open Go.RowKit
attribute [local go_sem ↓] Go.wp_at_zero Go.wp_at_succ

def inSpan (f t x : Int) : Bool := decide (f ≤ x ∧ x < t)
set_option maxHeartbeats 400000 in
theorem span_any (f t m x : Int) (ad : Addr) (b : Nat) (hab : ad = ⟨b, 0, none⟩) (w : World) (hb : Blk w b (.cells #[.int .i64 x] 3)) :
    Calls Try.prog 47 #[.agg #[.int .i64 f, .int .i64 t, .int .i64 m], .pointer (some ad)] w fun e w' => e = .returned (.bool (inSpan f t x)) ∧ Below w.heap.size w w' := by
  subst hab
  generalize hr : inSpan f t x = r
  have HR := Lib.hid hr; clear hr
  obtain ⟨l, c0, f0⟩ := hb.one
  have HB := Lib.hid hb; clear hb
  go_enter Try.func47, Try.ntmps47
  by_cases h1 : f ≤ x
  · have d1 : decide (f ≤ x) = true := by simpa using h1
    by_cases h2 : x < t
    · have d2 : decide (x < t) = true := by simpa using h2
      go_wp2_with fail
      go_returns
      exact ⟨ret_bool (by rw [← HR.out, inSpan, decide_eq_true ⟨h1, h2⟩]), by go_grown⟩
    · have d2 : decide (x < t) = false := by simpa using h2
      go_wp2_with fail
      go_returns
      exact ⟨ret_bool (by rw [← HR.out, inSpan, decide_eq_false (by omega)]), by go_grown⟩
  · have d1 : decide (f ≤ x) = false := by simpa using h1
    go_wp2_with fail
    go_returns
    exact ⟨ret_bool (by rw [← HR.out, inSpan, decide_eq_false (by omega)]), by go_grown⟩

set_option maxRecDepth 100000 in
set_option maxHeartbeats 1000000 in
theorem ixf_cap (a : Option Addr) (n c : Nat) (F T M : Nat → Int) (cp0 : Addr) (p : Nat → Bool) (w : World) (hm : n ≤ maxLen) (hR : CapsAt w a n F T M)
    (hcall : ∀ i, i < n → ∀ W, Below w.heap.size w W → Calls Try.prog 47 #[.agg #[.int .i64 (F i), .int .i64 (T i), .int .i64 (M i)], .pointer (some cp0)] W fun e w' => e = .returned (.bool (p i)) ∧ Below W.heap.size W w') :
    Calls Try.prog 40 #[.slice a n c, .func (.func 47) #[] #[.pointer (some cp0)]] w fun e w' => e = .returned (.int .i64 (firstIx p n)) ∧ Below w.heap.size w w' := by
  unfold maxLen at hm
  generalize hr : firstIx p n = r
  have HR := Lib.hid hr; clear hr
  have HRow := Lib.hid hR; clear hR
  have HCall := Lib.hid hcall; clear hcall
  go_enter Try.func40, Try.ntmps40
  go_wp2_with fail
  go_loopw [8] (fun i wr => ∃ k : Nat, k ≤ n ∧ i = .int .i64 k ∧ Hid (∀ j, j < k → p j = false) ∧ Below w.heap.size w wr) (fun i _ => n - (intOf i).toNat)
  case atStart => exact ⟨0, by omega, rfl, Lib.hid (fun j hj => absurd hj (by omega)), by go_grown⟩
  case round =>
    obtain ⟨k, hk, rfl, HS, hB⟩ := hrel
    have hz := hB.size
    by_cases hlt : k < n
    · obtain ⟨b, off, rfl, hbl, hcell⟩ := (HRow.out.below hB (Nat.le_refl _)) (by omega)
      obtain ⟨e1, e2, e3⟩ := caps_cells hcell k hlt
      have HC := Lib.hid hcell; clear hcell
      go_wp2_with fail
      refine (HCall.out k hlt _ hB).mono ?_
      rintro e w1 ⟨rfl, hb⟩
      have hB1 : Below w.heap.size w w1 := hB.trans (hb.mono hz)
      clear hb
      cases hp : p k with
      | true =>
        have HV := Lib.hid (firstIx_at HS.out hp hlt); clear hp
        go_wp2_with fail
        go_returns
        exact ⟨ret_int (by rw [← HR.out, HV.out]), hB1⟩
      | false =>
        have HS2 : Hid (∀ j, j < k + 1 → p j = false) := Lib.hid (fun j hj => by
          rcases Nat.lt_or_ge j k with h | h
          · exact HS.out j h
          · obtain rfl : j = k := by omega
            exact hp)
        clear hp
        go_wp2_with fail
        go_roundw
        case rel => exact ⟨k + 1, by omega, by go_num, HS2, hB1⟩
        case measure => simp [intOf]; omega
    · have HV := Lib.hid (firstIx_none (p := p) (n := n) (fun j hj => HS.out j (by omega)))
      go_wp2_with fail
      go_returns
      exact ⟨ret_int (by rw [← HR.out, HV.out]), hB⟩

/- the capacity of a time, or -1 -/
def capIx (n : Nat) (F T : Nat → Int) (x : Int) : Int := firstIx (fun i => inSpan (F i) (T i) x) n
set_option maxHeartbeats 400000 in
theorem findex_any (a : Option Addr) (n c : Nat) (F T M : Nat → Int) (x : Int) (w : World) (hm : n ≤ maxLen) (hR : CapsAt w a n F T M) :
    Calls Try.prog 33 #[.slice a n c, .int .i64 x] w fun e w' => e = .returned (.int .i64 (capIx n F T x)) ∧ Below w.heap.size w w' := by
  generalize hr : capIx n F T x = r
  have HR := Lib.hid hr; clear hr
  have HRow := Lib.hid hR; clear hR
  go_enter Try.func33, Try.ntmps33
  go_wp2_with fail
  refine (ixf_cap a n c F T M _ (fun i => inSpan (F i) (T i) x) _ hm (HRow.out.below (by go_grown) (Nat.le_refl _)) (fun i hi W hW => span_any _ _ _ x _ w.heap.size rfl W ((Blk.new w _).below hW (by simp)))).mono ?_
  rintro e w1 ⟨rfl, hb⟩
  have hB1 : Below w.heap.size w w1 := Below.step (by go_grown) hb (by go_size)
  go_wp2_with fail
  go_returns
  exact ⟨ret_int (by rw [← HR.out]; rfl), hB1⟩

def atE (n : Nat) (F T M : Nat → Int) (x : Int) : Int := if fchk n F T M ≠ 0 then fchk n F T M else if capIx n F T x < 0 then 8 else 0
def atI (n : Nat) (F T M : Nat → Int) (x : Int) : Int := if atE n F T M x = 0 then capIx n F T x else 0
set_option maxHeartbeats 400000 in
theorem fat_any (a : Option Addr) (n c : Nat) (F T M : Nat → Int) (x : Int) (w : World) (hm : n ≤ maxLen) (hR : CapsAt w a n F T M) :
    Calls Try.prog 30 #[.slice a n c, .int .i64 x] w fun e w' => e = .returned (.tuple #[.int .i64 (atI n F T M x), .int .i64 (atE n F T M x)]) ∧ Below w.heap.size w w' := by
  generalize hr : Value.tuple #[.int .i64 (atI n F T M x), .int .i64 (atE n F T M x)] = r
  have HR := Lib.hid hr; clear hr
  have HRow := Lib.hid hR; clear hR
  go_enter Try.func30, Try.ntmps30
  go_wp2_with fail
  refine (fcheck_any a n c F T M _ hm HRow.out).mono ?_
  rintro e w1 ⟨rfl, hb⟩
  have hB := hb; clear hb
  have hz := hB.size
  generalize hk : fchk n F T M = k
  by_cases h0 : k = 0
  · subst h0
    have HK := Lib.hid hk; clear hk
    go_wp2_with fail
    refine (findex_any a n c F T M x _ hm (HRow.out.below hB (Nat.le_refl _))).mono ?_
    rintro e w2 ⟨rfl, hb⟩
    have hB2 := hB.trans (hb.mono hz)
    clear hb hB
    generalize hi : capIx n F T x = i
    have HI := Lib.hid hi; clear hi
    by_cases hn : i < 0
    · have HE : Hid (atE n F T M x = 8) := Lib.hid (by unfold atE; rw [HK.out, HI.out, if_neg (by decide), if_pos hn])
      go_wp2_with fail
      go_returns
      exact ⟨ret_eq (by rw [← HR.out, atI, HE.out, if_neg (by decide)]; rfl), hB2⟩
    · have HE : Hid (atE n F T M x = 0) := Lib.hid (by unfold atE; rw [HK.out, HI.out, if_neg (by decide), if_neg hn])
      go_wp2_with fail
      go_returns
      exact ⟨ret_eq (by rw [← HR.out, atI, HE.out, if_pos rfl, HI.out]; rfl), hB2⟩
  · have hk' : (k != 0) = true := by simpa using h0
    have HE : Hid (atE n F T M x = k) := Lib.hid (by unfold atE; rw [hk, if_pos h0])
    have H0 := Lib.hid h0; clear h0 hk
    go_wp2_with fail
    go_returns
    exact ⟨ret_eq (by rw [← HR.out, atI, HE.out, if_neg H0.out]; rfl), hB⟩

/- Room: the sum of the capacities that end behind a time -/
def roomS (T M : Nat → Int) (from_ : Int) : Nat → Int
  | 0 => 0
  | k + 1 => roomS T M from_ k + if from_ < T k then M k else 0
theorem fsc_good {F T M : Nat → Int} {n : Nat} (h : fsc F T M n = 0) : ∀ k, k < n → ¬ fbad (F k) (T k) (M k) ∧ ¬ (0 < k ∧ F k < T (k - 1)) := by
  intro k hk
  have h1 : fsc F T M (k + 1) = 0 := by
    by_cases h' : fsc F T M (k + 1) = 0
    · exact h'
    · exact absurd ((fsc_stays h' n (by omega)).symm.trans h) h'
  rw [fsc] at h1
  split at h1
  · contradiction
  · split at h1
    · omega
    · split at h1
      · omega
      · exact ⟨by assumption, by assumption⟩
theorem fsc_of {F T M : Nat → Int} {n : Nat} (h : ∀ k, k < n → ¬ fbad (F k) (T k) (M k) ∧ ¬ (0 < k ∧ F k < T (k - 1))) : fsc F T M n = 0 := by
  induction n with
  | zero => rfl
  | succ n ih => exact fsc_next (ih (fun k hk => h k (by omega))) (h n (by omega)).1 (h n (by omega)).2
theorem fchk_good {F T M : Nat → Int} {n : Nat} (h : fchk n F T M = 0) : n ≤ 256 ∧ ∀ k, k < n → 0 ≤ F k ∧ T k ≤ 200000 ∧ F k < T k ∧ 0 ≤ M k ∧ M k ≤ 24 := by
  unfold fchk at h
  split at h
  · omega
  · refine ⟨by omega, fun k hk => ?_⟩
    have := (fsc_good h k hk).1
    unfold fbad at this
    omega
theorem room_in {T M : Nat → Int} {from_ : Int} {n : Nat} (h : ∀ k, k < n → 0 ≤ M k ∧ M k ≤ 24) : 0 ≤ roomS T M from_ n ∧ roomS T M from_ n ≤ 24 * n := by
  induction n with
  | zero => exact ⟨Int.le_refl _, Int.le_refl _⟩
  | succ n ih =>
    have h1 := ih (fun k hk => h k (by omega))
    have h2 := h n (by omega)
    rw [roomS]
    split <;> omega
def roomE (n : Nat) (F T M : Nat → Int) : Int := fchk n F T M
def roomN (n : Nat) (F T M : Nat → Int) (from_ : Int) : Int := if fchk n F T M = 0 then roomS T M from_ n else 0
set_option maxHeartbeats 1000000 in
theorem froom_any (a : Option Addr) (n c : Nat) (F T M : Nat → Int) (x : Int) (w : World) (hm : n ≤ maxLen) (hR : CapsAt w a n F T M) :
    Calls Try.prog 13 #[.slice a n c, .int .i64 x] w fun e w' => e = .returned (.tuple #[.int .i64 (roomN n F T M x), .int .i64 (fchk n F T M)]) ∧ Below w.heap.size w w' := by
  generalize hr : Value.tuple #[.int .i64 (roomN n F T M x), .int .i64 (fchk n F T M)] = r
  have HR := Lib.hid hr; clear hr
  have HRow := Lib.hid hR; clear hR
  go_enter Try.func13, Try.ntmps13
  go_wp2_with fail
  refine (fcheck_any a n c F T M _ hm HRow.out).mono ?_
  rintro e w1 ⟨rfl, hb⟩
  have hB := hb; clear hb
  have hz := hB.size
  generalize hk : fchk n F T M = k
  unfold maxLen at hm
  by_cases h0 : k = 0
  · subst h0
    have hg := fchk_good hk
    have hn := hg.1
    have HG := Lib.hid hg.2; clear hg
    have HK := Lib.hid hk; clear hk
    go_wp2_with fail
    go_loopw [7, 17] (fun s i wr => ∃ j : Nat, j ≤ n ∧ i = .int .i64 j ∧ s = .int .i64 (roomS T M x j) ∧ Below w.heap.size w wr) (fun _ i _ => n - (intOf i).toNat)
    case atStart => exact ⟨0, by omega, rfl, rfl, hB⟩
    case round =>
      clear hB hz
      obtain ⟨j, hj, rfl, rfl, hB⟩ := hrel
      have hz := hB.size
      by_cases hlt : j < n
      · obtain ⟨b, off, rfl, hbl, hcell⟩ := (HRow.out.below hB (Nat.le_refl _)) (by omega)
        obtain ⟨e1, e2, e3⟩ := caps_cells hcell j hlt
        have HC := Lib.hid hcell; clear hcell
        obtain ⟨g1, g2, g3, g4, g5⟩ := HG.out j hlt
        obtain ⟨r1, r2⟩ := room_in (T := T) (M := M) (from_ := x) (n := j) (fun k hk => (HG.out k (by omega)).2.2.2)
        by_cases ht : x < T j
        · have HV : Hid (roomS T M x (j + 1) = roomS T M x j + M j) := Lib.hid (by rw [roomS, if_pos ht])
          go_wp2_with fail
          go_roundw
          case rel => exact ⟨j + 1, by omega, by go_num, by rw [HV.out], by go_grown⟩
          case measure => simp [intOf]; omega
        · have HV : Hid (roomS T M x (j + 1) = roomS T M x j) := Lib.hid (by rw [roomS, if_neg ht]; omega)
          go_wp2_with fail
          go_roundw
          case rel => exact ⟨j + 1, by omega, by go_num, by rw [HV.out], by go_grown⟩
          case measure => simp [intOf]; omega
      · obtain rfl : j = n := by omega
        go_wp2_with fail
        go_returns
        exact ⟨ret_eq (by rw [← HR.out, roomN, if_pos HK.out, HK.out]; rfl), hB⟩
  · have hk' : (k != 0) = true := by simpa using h0
    have HK := Lib.hid hk; have H0 := Lib.hid h0; clear h0 hk
    go_wp2_with fail
    go_returns
    exact ⟨ret_eq (by rw [← HR.out, roomN, HK.out, if_neg H0.out]; rfl), hB⟩

end Go.Proofs.Ytfhcciepaangiaa
