/- Index and Contains over strings; each flight has one sector (plain). -/
import Derived.Test.YtekjoddmohjpbaaOwner14
set_option linter.unusedVariables false
set_option linter.unusedSimpArgs false
namespace Go.Proofs.Ytekjoddmohjpbaa
open Go.RowKit
attribute [local go_sem ↓] Go.wp_at_zero Go.wp_at_succ

set_option maxRecDepth 100000 in
set_option maxHeartbeats 1000000 in
theorem index_strs (a : Option Addr) (c : Nat) (l : List ByteArray) (s : ByteArray) (w : World) (hs : strE.Slc w a c l) :
    Calls Try.prog 27 #[.slice a l.length c, .string s] w fun e w' => e = .returned (.int .i64 (idxP (fun x => decide (s = x)) l)) ∧ Below w.heap.size w w' := by
  have hm := hs.max
  have hR := hs.row
  clear hs
  unfold maxLen at hm
  generalize hr : idxP (fun x => decide (s = x)) l = r
  have HR := Lib.hid hr; clear hr
  have HRow := Lib.hid hR; clear hR
  generalize hn : l.length = n at hm ⊢
  have HN := Lib.hid hn; clear hn
  go_enter Try.func27, Try.ntmps27
  go_wp2_with fail
  go_loopw [8] (fun i wr => ∃ k : Nat, k ≤ n ∧ i = .int .i64 k ∧ Hid (∀ j, j < k → decide (s = el l j) = false) ∧ Below w.heap.size w wr) (fun i _ => n - (intOf i).toNat)
  case atStart => exact ⟨0, by omega, rfl, Lib.hid (fun j hj => absurd hj (by omega)), by go_grown⟩
  case round =>
    obtain ⟨k, hk, rfl, HS, hB⟩ := hrel
    have hz := hB.size
    by_cases hlt : k < n
    · obtain ⟨b, off, rfl, hbl, e1⟩ := strE_cell (HRow.out.below hB (Nat.le_refl _)) k (by rw [HN.out]; exact hlt)
      by_cases hp : s = el l k
      · have q1 := str_same hp
        have HV := Lib.hid (firstIx_at (p := fun i => decide (s = el l i)) HS.out (decide_eq_true hp) (by rw [HN.out]; exact hlt : k < l.length)); clear hp
        go_wp2_with fail
        go_returns
        exact ⟨ret_int (by rw [← HR.out, idxP, HV.out]), hB⟩
      · have q1 := str_diff hp
        have HS2 : Hid (∀ j, j < k + 1 → decide (s = el l j) = false) := Lib.hid (fun j hj => by
          rcases Nat.lt_or_ge j k with h | h
          · exact HS.out j h
          · obtain rfl : j = k := by omega
            exact decide_eq_false hp)
        clear hp
        go_wp2_with fail
        go_roundw
        case rel => exact ⟨k + 1, by omega, by go_num, HS2, hB⟩
        case measure => simp [intOf]; omega
    · have HV := Lib.hid (firstIx_none (p := fun i => decide (s = el l i)) (n := l.length) (fun j hj => HS.out j (by rw [HN.out] at hj; omega)))
      go_wp2_with fail
      go_returns
      exact ⟨ret_int (by rw [← HR.out, idxP, HV.out]), hB⟩
instance memDec (s : ByteArray) (l : List ByteArray) : Decidable (s ∈ l) := decidable_of_iff (l.any (fun x => decide (s = x)) = true) (by simp [List.any_eq_true])
theorem idx_mem (l : List ByteArray) (s : ByteArray) : decide (0 ≤ idxP (fun x => decide (s = x)) l) = decide (s ∈ l) := by
  rw [idxP_any]
  by_cases h : s ∈ l
  · rw [decide_eq_true h, List.any_eq_true]; exact ⟨s, h, by simp⟩
  · rw [decide_eq_false h, List.any_eq_false]; intro x hx hh; exact h (by simp at hh; rw [hh]; exact hx)
set_option maxRecDepth 100000 in
set_option maxHeartbeats 1000000 in
theorem contains_strs (a : Option Addr) (c : Nat) (l : List ByteArray) (s : ByteArray) (w : World) (hs : strE.Slc w a c l) :
    Calls Try.prog 13 #[.slice a l.length c, .string s] w fun e w' => e = .returned (.bool (decide (s ∈ l))) ∧ Below w.heap.size w w' := by
  have HS := Lib.hid hs; clear hs
  have HD := Lib.hid (idx_mem l s)
  generalize hr : decide (s ∈ l) = r at HD ⊢
  clear hr
  go_enter Try.func13, Try.ntmps13
  go_wp2_with fail
  refine (index_strs a c l s _ HS.out).mono ?_
  rintro e w1 ⟨rfl, hb⟩
  generalize hx : idxP (fun x => decide (s = x)) l = x at HD ⊢
  clear hx
  go_wp2_with fail
  go_returns
  exact ⟨ret_bool (by first | exact HD.out | (rw [← HD.out]; simp)), hb⟩

theorem bl_irr : ∀ a : List UInt8, Op.bytesLess a a = false
  | [] => rfl
  | a :: x => by simp [Op.bytesLess, bl_irr x]
theorem bl_trans : ∀ a b c : List UInt8, Op.bytesLess a b = true → Op.bytesLess b c = true → Op.bytesLess a c = true
  | _, [], _, h, _ => by simp [Op.bytesLess] at h
  | _, _ :: _, [], _, h => by simp [Op.bytesLess] at h
  | [], _ :: _, _ :: _, _, _ => rfl
  | a :: x, b :: y, c :: z, h, k => by
    simp only [Op.bytesLess, Bool.or_eq_true, decide_eq_true_eq, Bool.and_eq_true, beq_iff_eq] at h k ⊢
    rcases h with h | ⟨rfl, h⟩ <;> rcases k with k | ⟨rfl, k⟩
    · exact .inl (UInt8.lt_trans h k)
    · exact .inl h
    · exact .inl k
    · exact .inr ⟨rfl, bl_trans x y z h k⟩
theorem bl_tot : ∀ a b : List UInt8, Op.bytesLess a b = false → a ≠ b → Op.bytesLess b a = true
  | [], [], _, h => absurd rfl h
  | [], _ :: _, h, _ => by simp [Op.bytesLess] at h
  | _ :: _, [], _, _ => rfl
  | a :: x, b :: y, h, hne => by
    simp only [Op.bytesLess, Bool.or_eq_false_iff, decide_eq_false_iff_not, Bool.and_eq_false_iff] at h
    simp only [Op.bytesLess, Bool.or_eq_true, decide_eq_true_eq, Bool.and_eq_true, beq_iff_eq]
    by_cases hab : a = b
    · subst hab
      right
      refine ⟨rfl, bl_tot x y ?_ (fun hh => hne (by rw [hh]))⟩
      rcases h.2 with h2 | h2
      · simp at h2
      · exact h2
    · left
      have h1 := h.1
      rw [UInt8.lt_iff_toNat_lt] at h1 ⊢
      have : a.toNat ≠ b.toNat := fun hh => hab (UInt8.toNat_inj.1 hh)
      omega
theorem call_step {l : List OEntry} (h : ochk l = 0) {k : Nat} (hk : k + 1 < l.length) : Op.bytesLess (el l k).call.toList (el l (k + 1)).call.toList = true := by
  obtain ⟨-, -, g3⟩ := ((ochk_zero l).1 h).2 (k + 1) hk
  have h3 : leS (el l (k + 1)).call (el l k).call = false := by
    cases hh : leS (el l (k + 1)).call (el l k).call
    · rfl
    · exact absurd ⟨Nat.succ_pos k, hh⟩ g3
  unfold leS at h3
  simp only [Bool.or_eq_false_iff] at h3
  exact bl_tot _ _ h3.1 (by simpa using h3.2)
theorem call_lt {l : List OEntry} (h : ochk l = 0) {k : Nat} (hk : k < l.length) : ∀ j, j < k → Op.bytesLess (el l j).call.toList (el l k).call.toList = true := by
  induction k with
  | zero => intro j hj; omega
  | succ k ih =>
    intro j hj
    rcases Nat.lt_or_ge j k with h' | h'
    · exact bl_trans _ _ _ (ih (by omega) j h') (call_step h hk)
    · obtain rfl : j = k := by omega
      exact call_step h hk
theorem of_self {l : List OEntry} (h : ochk l = 0) {k : Nat} (hk : k < l.length) : ofE l (el l k).call = 0 ∧ ofV l (el l k).call = (el l k).own := by
  have hx : plX l (el l k).call = k := by
    unfold plX idxP
    refine firstIx_at (fun j hj => ?_) ?_ hk
    · show (!(Op.bytesLess (el l j).call.toList (el l k).call.toList)) = false
      rw [call_lt h hk j hj]; rfl
    · show (!(Op.bytesLess (el l k).call.toList (el l k).call.toList)) = true
      rw [bl_irr]; rfl
  have hn : plN l (el l k).call = k := by unfold plN; rw [hx, if_neg (by omega)]; simp
  have hb : plB l (el l k).call = true := by unfold plB; rw [hn]; exact decide_eq_true ⟨hk, rfl⟩
  have h0 : ofE l (el l k).call = 0 := by unfold ofE; rw [if_neg (by rw [h]; decide), if_pos hb]
  exact ⟨h0, by unfold ofV; rw [if_pos h0, hn]⟩
def dnL (l : List OEntry) : Nat → List ByteArray
  | 0 => []
  | k + 1 => if (el l k).own ∈ dnL l k then dnL l k else dnL l k ++ [(el l k).own]
def cntD (l : List OEntry) (D : List ByteArray) : Nat := (D.map fun o => (flL l o).length).sum
theorem dnL_nodup (l : List OEntry) (k : Nat) : (dnL l k).Nodup := by
  induction k with
  | zero => exact List.nodup_nil
  | succ k ih =>
    unfold dnL
    split
    · exact ih
    · rename_i h
      rw [List.nodup_append]
      exact ⟨ih, by simp, fun x hx y hy hh => by simp at hy; subst hy; subst hh; exact h hx⟩
theorem dnL_len (l : List OEntry) (k : Nat) : (dnL l k).length ≤ k := by
  induction k with
  | zero => exact Nat.le_refl _
  | succ k ih =>
    unfold dnL
    split
    · omega
    · rw [List.length_append, List.length_singleton]; omega
theorem dnL_has (l : List OEntry) (k j : Nat) (hj : j < k) : (el l j).own ∈ dnL l k := by
  induction k with
  | zero => omega
  | succ k ih =>
    unfold dnL
    rcases Nat.lt_or_ge j k with h | h
    · split
      · exact ih h
      · exact List.mem_append_left _ (ih h)
    · obtain rfl : j = k := by omega
      split
      · assumption
      · simp
theorem flL_len {l : List OEntry} (h : ochk l = 0) (o : ByteArray) : (flL l o).length = l.countP (fun x => decide (x.own = o)) := by
  unfold flL flT; rw [if_neg (by rw [h]; decide), List.take_length, List.length_map, List.countP_eq_length_filter]
theorem count_split (l : List OEntry) (o : ByteArray) (D : List ByteArray) (ho : o ∉ D) : l.countP (fun x => decide (x.own = o)) + l.countP (fun x => decide (x.own ∈ D)) = l.countP (fun x => decide (x.own ∈ o :: D)) := by
  induction l with
  | nil => rfl
  | cons x l ih =>
    rw [List.countP_cons, List.countP_cons, List.countP_cons, ← ih]
    by_cases h1 : x.own = o
    · have h2 : x.own ∉ D := h1 ▸ ho
      have h3 : x.own ∈ o :: D := by rw [h1]; exact List.mem_cons_self
      rw [if_pos (decide_eq_true h1), if_neg (by rw [decide_eq_false h2]; decide), if_pos (decide_eq_true h3)]; omega
    · by_cases h2 : x.own ∈ D
      · rw [if_neg (by rw [decide_eq_false h1]; decide), if_pos (decide_eq_true h2), if_pos (decide_eq_true (List.mem_cons_of_mem _ h2))]; omega
      · rw [if_neg (by rw [decide_eq_false h1]; decide), if_neg (by rw [decide_eq_false h2]; decide), if_neg (by rw [decide_eq_false (fun h => by rcases List.mem_cons.1 h with h | h; exact h1 h; exact h2 h)]; decide)]; omega
theorem cntD_eq {l : List OEntry} (h : ochk l = 0) : ∀ D : List ByteArray, D.Nodup → cntD l D = l.countP (fun x => decide (x.own ∈ D))
  | [], _ => by simp [cntD]
  | o :: D, hn => by
    have := cntD_eq h D (List.nodup_cons.1 hn).2
    unfold cntD at this ⊢
    rw [List.map_cons, List.sum_cons, this, flL_len h, count_split l o D (List.nodup_cons.1 hn).1]
theorem cntD_le {l : List OEntry} (h : ochk l = 0) (k : Nat) : cntD l (dnL l k) ≤ l.length := by
  rw [cntD_eq h _ (dnL_nodup l k)]; exact List.countP_le_length
theorem cntD_all {l : List OEntry} (h : ochk l = 0) : cntD l (dnL l l.length) = l.length := by
  rw [cntD_eq h _ (dnL_nodup l _), List.countP_eq_length]
  intro x hx
  obtain ⟨k, hk, rfl⟩ := mem_el hx
  exact decide_eq_true (dnL_has l l.length k hk)
theorem cntD_snoc (l : List OEntry) (D : List ByteArray) (o : ByteArray) : cntD l (D ++ [o]) = cntD l D + (flL l o).length := by
  simp [cntD]
theorem fl_has {l : List OEntry} (h : ochk l = 0) {k : Nat} (hk : k < l.length) : (el l k).call ∈ flL l (el l k).own := by
  unfold flL flT
  rw [if_neg (by rw [h]; decide), List.take_length, List.mem_map]
  exact ⟨el l k, List.mem_filter.2 ⟨el_mem hk, by simp⟩, rfl⟩
theorem dnL_yes {l : List OEntry} {k : Nat} (h : (el l k).own ∈ dnL l k) : dnL l (k + 1) = dnL l k := by rw [dnL, if_pos h]
theorem dnL_no {l : List OEntry} {k : Nat} (h : (el l k).own ∉ dnL l k) : dnL l (k + 1) = dnL l k ++ [(el l k).own] := by rw [dnL, if_neg h]

end Go.Proofs.Ytekjoddmohjpbaa
