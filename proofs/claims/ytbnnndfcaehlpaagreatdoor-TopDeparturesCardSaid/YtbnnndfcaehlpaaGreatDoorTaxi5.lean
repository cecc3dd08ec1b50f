/- taxi.Queue as a plain program: the order of departures. (under way) -/
import Derived.Test.YtbnnndfcaehlpaaGreatDoorTaxi4
set_option linter.unusedVariables false
set_option linter.unusedSimpArgs false
namespace Go.Proofs.YtbnnndfcaehlpaaGreatDoor
/- texts in order -/
theorem less_irr : ∀ a : List UInt8, Op.bytesLess a a = false
  | [] => rfl
  | a :: r => by simp [Op.bytesLess, less_irr r]
theorem less_asy : ∀ a b : List UInt8, Op.bytesLess a b = true → Op.bytesLess b a = false
  | _, [], h => by simp [Op.bytesLess] at h
  | [], b :: s, _ => rfl
  | a :: r, b :: s, h => by
    simp only [Op.bytesLess, Bool.or_eq_true, Bool.and_eq_true, decide_eq_true_eq, beq_iff_eq] at h
    simp only [Op.bytesLess, Bool.or_eq_false_iff, decide_eq_false_iff_not, Bool.and_eq_false_iff]
    rcases h with h | ⟨rfl, h⟩
    · exact ⟨by simpa using UInt8.le_of_lt h, .inl (by simp; rintro rfl; exact absurd h (UInt8.lt_irrefl _))⟩
    · exact ⟨by simp, .inr (less_asy r s h)⟩
theorem less_tot : ∀ a b : List UInt8, Op.bytesLess a b = true ∨ Op.bytesLess b a = true ∨ a = b
  | [], [] => .inr (.inr rfl)
  | [], b :: s => .inl rfl
  | a :: r, [] => .inr (.inl rfl)
  | a :: r, b :: s => by
    simp only [Op.bytesLess, Bool.or_eq_true, Bool.and_eq_true, decide_eq_true_eq, beq_iff_eq, List.cons.injEq]
    rcases Nat.lt_trichotomy a.toNat b.toNat with h | h | h
    · exact .inl (.inl h)
    · have : a = b := UInt8.toNat_inj.1 h
      subst this
      rcases less_tot r s with h | h | h
      · exact .inl (.inr ⟨rfl, h⟩)
      · exact .inr (.inl (.inr ⟨rfl, h⟩))
      · exact .inr (.inr ⟨rfl, h⟩)
    · exact .inr (.inl (.inl h))
theorem less_tra : ∀ a b c : List UInt8, Op.bytesLess a b = true → Op.bytesLess b c = true → Op.bytesLess a c = true
  | _, _, [], _, h => by simp [Op.bytesLess] at h
  | _, [], _ :: _, h, _ => by simp [Op.bytesLess] at h
  | [], b :: s, c :: t, _, _ => rfl
  | a :: r, b :: s, c :: t, h1, h2 => by
    simp only [Op.bytesLess, Bool.or_eq_true, Bool.and_eq_true, decide_eq_true_eq, beq_iff_eq] at h1 h2 ⊢
    rcases h1 with h1 | ⟨rfl, h1⟩
    · rcases h2 with h2 | ⟨rfl, h2⟩
      · exact .inl (UInt8.lt_trans h1 h2)
      · exact .inl h1
    · rcases h2 with h2 | ⟨rfl, h2⟩
      · exact .inl h2
      · exact .inr ⟨rfl, less_tra r s t h1 h2⟩
/- the comparison of movements -/
def cmpC (a b : ByteArray) : Int := if Op.bytesLess a.toList b.toList then -1 else if Op.bytesLess b.toList a.toList then 1 else 0
def cmpM (x y : TTaxiMove) : Int := if x.Hold - y.Hold ≠ 0 then x.Hold - y.Hold else cmpC x.Call y.Call
theorem cmpC_eq (n : Nat) (a b : ByteArray) : g85 n a b = some (cmpC a b) := by
  unfold g85 g145
  simp only [beq_self_eq_true, Bool.not_true, Option.bind_some, cond_false, cmpC]
  rcases less_tot a.toList b.toList with h | h | h
  · simp [h]
  · have := less_asy _ _ h
    have hne : (a.toList == b.toList) = false := by
      cases hq : a.toList == b.toList with
      | false => rfl
      | true => rw [beq_iff_eq.1 hq, less_irr] at h; cases h
    simp [h, this, hne]
  · rw [h]; simp [less_irr]
theorem cmpM_eq (n : Nat) (hn : 4 < n) (x y : TTaxiMove) (hx : 0 ≤ x.Hold ∧ x.Hold ≤ 1000000) (hy : 0 ≤ y.Hold ∧ y.Hold ≤ 1000000) : g97 n x y = some (cmpM x y) := by
  unfold g97
  rw [cmpC_eq, wrap64 (by omega) (by omega)]
  simp only [Option.bind_some]
  have : g84 n [x.Hold - y.Hold, cmpC x.Call y.Call] = some (cmpM x y) := by
    unfold g84
    obtain ⟨k, rfl⟩ : ∃ k, n = k + 3 := ⟨n - 3, by omega⟩
    unfold cmpM
    by_cases h : x.Hold - y.Hold ≠ 0
    · have h' : (x.Hold - y.Hold != 0) = true := by simpa using h
      simp [iterO, S84_0, getI, h', h]
    · have h' : (x.Hold - y.Hold != 0) = false := by simpa using h
      by_cases hc : cmpC x.Call y.Call ≠ 0
      · have hc' : (cmpC x.Call y.Call != 0) = true := by simpa using hc
        simp [iterO, S84_0, getI, h', h, hc', wrap64]
      · have hc' : (cmpC x.Call y.Call != 0) = false := by simpa using hc
        have hc0 : cmpC x.Call y.Call = 0 := by simpa using hc
        simp [iterO, S84_0, getI, h', h, hc', hc0, wrap64]
  rw [this]; rfl
theorem cmpM_lt (x y : TTaxiMove) : cmpM x y < 0 ↔ x.Hold < y.Hold ∨ (x.Hold = y.Hold ∧ Op.bytesLess x.Call.toList y.Call.toList = true) := by
  unfold cmpM cmpC
  by_cases h : x.Hold - y.Hold ≠ 0
  · rw [if_pos h]; constructor
    · intro h'; exact .inl (by omega)
    · rintro (h' | ⟨h', -⟩) <;> omega
  · rw [if_neg h]
    have he : x.Hold = y.Hold := by omega
    rcases less_tot x.Call.toList y.Call.toList with k | k | k
    · simp [k, he]
    · simp [k, less_asy _ _ k]; omega
    · rw [k]; simp [less_irr]; omega
def Before (x y : TTaxiMove) : Prop := x.Hold < y.Hold ∨ (x.Hold = y.Hold ∧ Op.bytesLess x.Call.toList y.Call.toList = true)
theorem ltO_moves (n : Nat) (hn : 4 < n) (x y : TTaxiMove) (hx : 0 ≤ x.Hold ∧ x.Hold ≤ 1000000) (hy : 0 ≤ y.Hold ∧ y.Hold ≤ 1000000) : ltO (fun x y => g97 n x y) x y = true ↔ Before x y := by
  unfold ltO Before
  show decide ((g97 n x y).getD 0 < 0) = true ↔ _
  rw [cmpM_eq n hn x y hx hy]
  simp only [Option.getD_some, decide_eq_true_eq, cmpM_lt]
theorem order_moves (n : Nat) (hn : 4 < n) (L : List TTaxiMove) (hh : ∀ x ∈ L, 0 ≤ x.Hold ∧ x.Hold ≤ 1000000) (hc : ∀ x ∈ L, ∀ y ∈ L, x.Call.toList = y.Call.toList → x = y) : OrdOn (fun x y => g97 n x y) L := by
  refine ⟨fun x hx y hy => ⟨_, cmpM_eq n hn x y (hh x hx) (hh y hy)⟩, fun x hx y hy => ?_, fun x hx y hy h => ?_, fun x hx y hy z hz h1 h2 => ?_⟩
  · rw [ltO_moves n hn x y (hh x hx) (hh y hy), ltO_moves n hn y x (hh y hy) (hh x hx)]
    unfold Before
    rcases less_tot x.Call.toList y.Call.toList with k | k | k
    · by_cases e : y.Hold < x.Hold
      · exact .inr (.inl (.inl e))
      · by_cases e' : x.Hold = y.Hold
        · exact .inl (.inr ⟨e', k⟩)
        · exact .inl (.inl (by omega))
    · by_cases e : x.Hold < y.Hold
      · exact .inl (.inl e)
      · by_cases e' : y.Hold = x.Hold
        · exact .inr (.inl (.inr ⟨e', k⟩))
        · exact .inr (.inl (.inl (by omega)))
    · exact .inr (.inr (hc x hx y hy k))
  · rw [ltO_moves n hn x y (hh x hx) (hh y hy)] at h
    cases hq : ltO (fun x y => g97 n x y) y x with
    | false => rfl
    | true =>
      rw [ltO_moves n hn y x (hh y hy) (hh x hx)] at hq
      rcases h with h | ⟨h, k⟩ <;> rcases hq with q | ⟨q, k'⟩
      · omega
      · omega
      · omega
      · rw [less_asy _ _ k] at k'; cases k'
  · rw [ltO_moves n hn x y (hh x hx) (hh y hy)] at h1
    rw [ltO_moves n hn y z (hh y hy) (hh z hz)] at h2
    rw [ltO_moves n hn x z (hh x hx) (hh z hz)]
    rcases h1 with h1 | ⟨h1, k1⟩ <;> rcases h2 with h2 | ⟨h2, k2⟩
    · exact .inl (by omega)
    · exact .inl (by omega)
    · exact .inl (by omega)
    · exact .inr ⟨by omega, less_tra _ _ _ k1 k2⟩
theorem sort_moves (n : Nat) (hn : 4 < n) (L : List TTaxiMove) (hl : L.length ≤ 1000) (hh : ∀ x ∈ L, 0 ≤ x.Hold ∧ x.Hold ≤ 1000000) (hc : ∀ x ∈ L, ∀ y ∈ L, x.Call.toList = y.Call.toList → x = y) : ∃ L', sortO (fun x y => g97 n x y) L = some L' ∧ L'.Perm L ∧ L'.Pairwise (fun x y => x.Hold ≤ y.Hold) := by
  have ho := order_moves n hn L hh hc
  have e : sortO (fun x y => g97 n x y) L = some (isortB (ltO fun x y => g97 n x y) L) := by
    unfold sortO
    rw [orderB_on.2 ho, decide_eq_true (by omega)]; rfl
  obtain ⟨p1, p2, -⟩ := sortO_facts e
  refine ⟨_, e, p1, p2.imp_of_mem fun {a b} ha hb h => ?_⟩
  rcases Int.lt_or_le b.Hold a.Hold with k | k
  · have := (ltO_moves n hn b a (hh b (p1.mem_iff.1 hb)) (hh a (p1.mem_iff.1 ha))).2 (.inl k)
    rw [this] at h; cases h
  · exact k
end Go.Proofs.YtbnnndfcaehlpaaGreatDoor
