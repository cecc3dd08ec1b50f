/- sorted texts: a sorted permutation is what slices.Sort makes. -/
import Derived.Test.YthjcdlbkdobmiaaMath2
import Derived.Test.YthjcdlbkdobmiaaPT
set_option linter.unusedVariables false
set_option linter.unusedSimpArgs false
namespace Go.Proofs.Ythjcdlbkdobmiaa
theorem less_lt : ∀ a b : List UInt8, Op.bytesLess a b = true ↔ a < b
  | _, [] => by simp [Op.bytesLess]
  | [], b :: y => by simp [Op.bytesLess]
  | a :: x, b :: y => by
    rw [List.cons_lt_cons_iff, ← less_lt x y]
    simp [Op.bytesLess]
theorem bytesOfS_toList (s : ByteArray) : bytesOfS s = s.toList := by rw [ByteArray.toList_eq]; rfl
theorem le_less (a b : ByteArray) : bytesOfS a ≤ bytesOfS b ↔ Op.bytesLess b.toList a.toList = false := by
  rw [← List.not_lt, bytesOfS_toList, bytesOfS_toList, ← less_lt]
  cases Op.bytesLess b.toList a.toList <;> simp
theorem sortS_eq {k c : List ByteArray} (hp : k.Perm c) (hs : c.Pairwise fun a b => Op.bytesLess b.toList a.toList = false) : sortS k = c := by
  unfold sortS
  have h1 : ((k.map bytesOfS).mergeSort fun x y => decide (x ≤ y)) = c.map bytesOfS := by
    refine sorted_unique (R := fun x y : List UInt8 => x ≤ y) (fun x _ y _ h h' => List.le_antisymm h h') ((List.mergeSort_perm _ _).trans (hp.map _)) ?_ ?_
    · have := List.pairwise_mergeSort (le := fun x y : List UInt8 => decide (x ≤ y)) (fun a b c h1 h2 => decide_eq_true (List.le_trans (of_decide_eq_true h1) (of_decide_eq_true h2))) (fun a b => by
        rcases List.le_total a b with h | h <;> simp [h]) (k.map bytesOfS)
      exact this.imp fun h => of_decide_eq_true h
    · rw [List.pairwise_map]
      exact hs.imp fun h => (le_less _ _).2 h
  rw [h1, List.map_map]
  have : strOfB ∘ bytesOfS = id := by funext s; exact strOf_bytes s
  rw [this, List.map_id]
theorem sortS_sorted (k : List ByteArray) : (sortS k).Pairwise fun a b => Op.bytesLess b.toList a.toList = false := by
  unfold sortS
  rw [List.pairwise_map]
  have := List.pairwise_mergeSort (le := fun x y : List UInt8 => decide (x ≤ y)) (fun a b c h1 h2 => decide_eq_true (List.le_trans (of_decide_eq_true h1) (of_decide_eq_true h2))) (fun a b => by
        rcases List.le_total a b with h | h <;> simp [h]) (k.map bytesOfS)
  refine this.imp fun {a b} h => ?_
  rw [← le_less, bytesOf_str, bytesOf_str]
  exact of_decide_eq_true h
end Go.Proofs.Ythjcdlbkdobmiaa
