/- Texts in parts and numerals: what Parse reads of what Print writes (lists of bytes alone). -/
import Derived.Test.YtnechdhngpajbaaDoorMath2
import Derived.Test.YtnechdhngpajbaaDoorRpH
import Derived.Lib.ItoaLen
set_option linter.unusedVariables false
set_option linter.unusedSimpArgs false
namespace Go.Proofs.YtnechdhngpajbaaDoor
/- parts between blanks -/
def sp : List UInt8 → List (List UInt8)
  | [] => [[]]
  | b :: l => if b = 32 then [] :: sp l else match sp l with
    | x :: r => (b :: x) :: r
    | [] => [[b]]
def joinS : List (List UInt8) → List UInt8
  | [] => []
  | [x] => x
  | x :: y :: r => x ++ 32 :: joinS (y :: r)
theorem sp_ne : ∀ l, sp l ≠ []
  | [] => by simp [sp]
  | b :: l => by
    unfold sp
    split
    · simp
    · split <;> simp
theorem join_sp : ∀ l, joinS (sp l) = l
  | [] => rfl
  | b :: l => by
    have ih := join_sp l
    have hne := sp_ne l
    unfold sp
    split
    · rename_i h
      subst h
      cases hs : sp l with
      | nil => exact absurd hs hne
      | cons x r => rw [hs] at ih; show [] ++ 32 :: joinS (x :: r) = _; rw [ih]; rfl
    · cases hs : sp l with
      | nil => exact absurd hs hne
      | cons x r =>
        rw [hs] at ih
        cases r with
        | nil => simp only [joinS] at ih ⊢; rw [ih]
        | cons y r => simp only [joinS] at ih ⊢; rw [List.cons_append, ih]
theorem sp_none : ∀ l : List UInt8, (∀ b ∈ l, b ≠ 32) → sp l = [l]
  | [], _ => rfl
  | b :: l, h => by
    unfold sp
    rw [if_neg (h b (by simp)), sp_none l (fun c hc => h c (by simp [hc]))]
theorem sp_blank (l : List UInt8) : sp (32 :: l) = [] :: sp l := by
  conv => lhs; unfold sp
  rw [if_pos rfl]
theorem sp_other {b : UInt8} {l x : List UInt8} {r : List (List UInt8)} (hb : b ≠ 32) (h : sp l = x :: r) : sp (b :: l) = (b :: x) :: r := by
  conv => lhs; unfold sp
  rw [if_neg hb, h]
theorem sp_cut : ∀ (a l : List UInt8), (∀ b ∈ a, b ≠ 32) → sp (a ++ 32 :: l) = a :: sp l
  | [], l, _ => sp_blank l
  | b :: a, l, h => sp_other (h b (by simp)) (sp_cut a l (fun c hc => h c (by simp [hc])))
theorem byte_cases (l : List UInt8) : (Lib.indexByte l 32 = -1 ∧ (∀ b ∈ l, b ≠ 32) ∧ l.count 32 = 0) ∨ ∃ i : Nat, Lib.indexByte l 32 = (i : Int) ∧ i < l.length ∧ (∀ b ∈ l.take i, b ≠ 32) ∧ l = l.take i ++ 32 :: l.drop (i + 1) ∧ l.count 32 = 1 + (l.drop (i + 1)).count 32 := by
  induction l with
  | nil => exact .inl ⟨rfl, by simp, rfl⟩
  | cons b l ih =>
    unfold Lib.indexByte
    by_cases hb : b = 32
    · subst hb
      refine .inr ⟨0, by simp, by simp, by simp, by simp, by simp; omega⟩
    · have e : (b == 32) = false := beq_eq_false_iff_ne.2 hb
      rw [e]
      simp only [Bool.false_eq_true, if_false]
      rcases ih with ⟨h1, h2, h3⟩ | ⟨i, h1, h2, h3, h4, h5⟩
      · left
        refine ⟨by rw [h1]; rfl, ?_, by rw [List.count_cons_of_ne hb]; exact h3⟩
        intro c hc
        rcases List.mem_cons.1 hc with rfl | hc
        · exact hb
        · exact h2 c hc
      · right
        refine ⟨i + 1, ?_, by simp; omega, ?_, ?_, ?_⟩
        · rw [h1]
          have : ((i : Int) == -1) = false := beq_eq_false_iff_ne.2 (by omega)
          rw [this]; simp
        · intro c hc
          rw [List.take_succ_cons] at hc
          rcases List.mem_cons.1 hc with rfl | hc
          · exact hb
          · exact h3 c hc
        · rw [List.take_succ_cons, List.drop_succ_cons, List.cons_append, ← h4]
        · rw [List.count_cons_of_ne hb, List.drop_succ_cons]; exact h5
theorem split_sp : ∀ (k : Nat) (l : List UInt8), l.count 32 = k → Lib.splitK [32] 0 k l = sp l
  | 0, l, h => by
    rcases byte_cases l with ⟨-, h2, -⟩ | ⟨i, -, -, -, -, h5⟩
    · rw [sp_none l h2]; rfl
    · omega
  | k + 1, l, h => by
    rcases byte_cases l with ⟨-, -, h3⟩ | ⟨i, h1, h2, h3, h4, h5⟩
    · omega
    · unfold Lib.splitK
      rw [index_byte, h1]
      have : ((i : Int) == -1) = false := beq_eq_false_iff_ne.2 (by omega)
      rw [this]
      simp only [Bool.false_eq_true, if_false, Int.toNat_natCast, Nat.add_zero, List.length_singleton]
      rw [split_sp k (l.drop (i + 1)) (by omega)]
      conv => rhs; rw [h4]
      rw [sp_cut _ _ h3]
theorem split_plain (s : ByteArray) : (Lib.splitB ⟨#[32]⟩ 0 (Lib.countB s ⟨#[32]⟩) s).map (·.data.toList) = sp s.data.toList := by
  rw [Lib.splitB_data]
  show Lib.splitK [32] 0 (Lib.count s.data.toList [32]) s.data.toList = _
  rw [Lib.count_one]
  exact split_sp _ _ rfl
/- numerals -/
theorem digit_mem : ∀ (u : Nat) (b : UInt8), b ∈ Lib.decDigits u → 48 ≤ b.toNat ∧ b.toNat ≤ 57 := by
  intro u
  induction u using Nat.strongRecOn with
  | _ u ih =>
    intro b hb
    rw [Lib.decDigits] at hb
    split at hb
    · simp only [List.mem_singleton] at hb
      subst hb
      rw [UInt8.toNat_ofNat']; omega
    · rw [List.mem_append] at hb
      rcases hb with hb | hb
      · exact ih (u / 10) (by omega) b hb
      · simp only [List.mem_singleton] at hb
        subst hb
        rw [UInt8.toNat_ofNat']; omega
theorem parse_snoc : ∀ (l : List UInt8) (acc v : Nat) (c : UInt8), Lib.parseUint10 acc l = .ok v → v < 1000000000000000000 → 48 ≤ c.toNat → c.toNat ≤ 57 → Lib.parseUint10 acc (l ++ [c]) = .ok (v * 10 + (c.toNat - 48))
  | [], acc, v, c, h, hv, h1, h2 => by
    simp only [Lib.parseUint10, Lib.NumEnd.ok.injEq] at h
    subst h
    simp only [List.nil_append, Lib.parseUint10]
    rw [if_pos ⟨h1, h2⟩, if_neg (by omega), if_neg (by omega)]
  | d :: l, acc, v, c, h, hv, h1, h2 => by
    simp only [Lib.parseUint10, List.cons_append] at h ⊢
    split at h
    · rename_i hd
      rw [if_pos hd]
      split at h
      · cases h
      · rename_i h3
        rw [if_neg h3]
        split at h
        · cases h
        · rename_i h4
          rw [if_neg h4]
          exact parse_snoc l _ v c h hv h1 h2
    · cases h
theorem parse_dec : ∀ (u : Nat), u < 1000000000000000000 → Lib.parseUint10 0 (Lib.decDigits u) = .ok u := by
  intro u
  induction u using Nat.strongRecOn with
  | _ u ih =>
    intro hu
    rw [Lib.decDigits]
    split
    · rename_i h
      simp only [Lib.parseUint10]
      have e : (UInt8.ofNat (48 + u)).toNat = 48 + u := by rw [UInt8.toNat_ofNat']; omega
      rw [e, if_pos (by omega), if_neg (by omega), if_neg (by omega)]
      simp
    · have h1 := ih (u / 10) (by omega) (by omega)
      have e : (UInt8.ofNat (48 + u % 10)).toNat = 48 + u % 10 := by rw [UInt8.toNat_ofNat']; omega
      rw [parse_snoc _ 0 (u / 10) _ h1 (by omega) (by omega) (by omega), e]
      congr 1
      omega
theorem dec_ne (u : Nat) : Lib.decDigits u ≠ [] := by
  rw [Lib.decDigits]
  split <;> simp
theorem atoi_itoa (z : Int) (h0 : 0 ≤ z) (h1 : z ≤ 1000000) : Lib.atoiAll (Lib.itoa z) = .ok z := by
  obtain ⟨u, rfl⟩ : ∃ u : Nat, z = (u : Int) := ⟨z.toNat, by omega⟩
  have hi : Lib.itoa (u : Int) = Lib.decDigits u := by unfold Lib.itoa; rw [if_neg (by omega)]; simp
  rw [hi]
  have hp := parse_dec u (by omega)
  have hm := digit_mem u
  have hne := dec_ne u
  unfold Lib.atoiAll
  cases hd : Lib.decDigits u with
  | nil => exact absurd hd hne
  | cons c r =>
    have hc := hm c (by rw [hd]; simp)
    have e1 : ¬ (c.toNat = 43 ∨ c.toNat = 45) := by omega
    simp only [if_neg e1]
    rw [← hd]
    have e2 : Lib.parseMag (Lib.decDigits u) = .ok u := by unfold Lib.parseMag; rw [if_neg hne]; exact hp
    rw [e2]
    have e3 : ¬ c.toNat = 45 := by omega
    simp only [e3, not_false_eq_true, true_and, false_and, if_false]
    rw [if_neg (by omega)]
theorem itoa_digits (z : Int) (h0 : 0 ≤ z) (b : UInt8) (hb : b ∈ Lib.itoa z) : 48 ≤ b.toNat ∧ b.toNat ≤ 57 := by
  unfold Lib.itoa at hb
  rw [if_neg (by omega)] at hb
  exact digit_mem _ b hb
theorem itoa_ne (z : Int) (h0 : 0 ≤ z) : Lib.itoa z ≠ [] := by
  unfold Lib.itoa
  rw [if_neg (by omega)]
  exact dec_ne _
theorem atoi_range {l : List UInt8} {v : Int} (h : Lib.atoiAll l = .ok v) : -9223372036854775808 ≤ v ∧ v ≤ 9223372036854775807 := by
  cases l with
  | nil => cases h
  | cons c r =>
    simp only [Lib.atoiAll] at h
    split at h
    · cases h
    · cases h
    · rename_i u hu
      split at h
      · cases h
      · rename_i h1
        split at h
        · cases h
        · rename_i h2
          simp only [Lib.NumEnd.ok.injEq] at h
          subst h
          by_cases hn : c.toNat = 45
          · simp only [hn, true_and] at h2 ⊢; simp; omega
          · simp only [hn, not_false_eq_true, true_and] at h1 ⊢; simp; omega
end Go.Proofs.YtnechdhngpajbaaDoor
