/- The first index below n at which a test holds; rows that a call owns, carried over calls (plain laws of this seat). -/
import Derived.Test.YtfhcciepaangiaaOwned
set_option linter.unusedVariables false
set_option linter.unusedSimpArgs false
namespace Go.Proofs.Ytfhcciepaangiaa
open Go.RowKit

def firstIx (p : Nat → Bool) : Nat → Int
  | 0 => -1
  | n + 1 => if 0 ≤ firstIx p n then firstIx p n else if p n then n else -1
theorem firstIx_none {p : Nat → Bool} {n : Nat} (h : ∀ j, j < n → p j = false) : firstIx p n = -1 := by
  induction n with
  | zero => rfl
  | succ n ih => rw [firstIx, ih (fun j hj => h j (by omega)), if_neg (by decide), h n (by omega)]; rfl
theorem firstIx_at {p : Nat → Bool} {n i : Nat} (h : ∀ j, j < i → p j = false) (hi : p i = true) (hn : i < n) : firstIx p n = i := by
  induction n with
  | zero => omega
  | succ n ih =>
    rcases Nat.lt_or_ge i n with h' | h'
    · rw [firstIx, ih h', if_pos (by omega)]
    · obtain rfl : i = n := by omega
      rw [firstIx, firstIx_none h, if_neg (by decide), if_pos hi]
theorem firstIx_cases (p : Nat → Bool) (n : Nat) : (firstIx p n = -1 ∧ ∀ j, j < n → p j = false) ∨ ∃ i : Nat, i < n ∧ firstIx p n = i ∧ p i = true ∧ ∀ j, j < i → p j = false := by
  by_cases h : ∀ j, j < n → p j = false
  · exact .inl ⟨firstIx_none h, h⟩
  · right
    induction n with
    | zero => exact absurd (fun j hj => absurd hj (by omega)) h
    | succ n ih =>
      by_cases h' : ∀ j, j < n → p j = false
      · have hp : p n = true := by
          cases hpn : p n with
          | true => rfl
          | false => exact absurd (fun j hj => by rcases Nat.lt_or_ge j n with h2 | h2; exact h' j h2; (obtain rfl : j = n := by omega); exact hpn) h
        exact ⟨n, by omega, firstIx_at h' hp (by omega), hp, h'⟩
      · obtain ⟨i, h1, h2, h3, h4⟩ := ih h'
        exact ⟨i, by omega, firstIx_at h4 h3 (by omega), h3, h4⟩
theorem firstIx_congr {p q : Nat → Bool} {n : Nat} (h : ∀ j, j < n → p j = q j) : firstIx p n = firstIx q n := by
  induction n with
  | zero => rfl
  | succ n ih => rw [firstIx, firstIx, ih (fun j hj => h j (by omega)), h n (by omega)]

theorem ownsRow_after {W w' : World} {base : Nat} {e : TypeId} {size : Nat} {v : Value} {n : Nat} {xs : List Value} (h : W.ownsRow base e size v n xs) (hb : Below W.heap.size W w') : w'.ownsRow base e size v n xs := by
  obtain ⟨hl, h | ⟨g, cap, cur, h1, h2, h3, h4⟩⟩ := h
  · exact ⟨hl, .inl h⟩
  · exact ⟨hl, .inr ⟨g, cap, cur, h1, h2, by rw [hb.block g (lt_of_block h3)]; exact h3, h4⟩⟩
theorem ownsRow_base {W : World} {base base' : Nat} {e : TypeId} {size : Nat} {v : Value} {n : Nat} {xs : List Value} (h : W.ownsRow base e size v n xs) (hb : base' ≤ base) : W.ownsRow base' e size v n xs := by
  obtain ⟨hl, h | ⟨g, cap, cur, h1, h2, h3⟩⟩ := h
  · exact ⟨hl, .inl h⟩
  · exact ⟨hl, .inr ⟨g, cap, cur, h1, by omega, h3⟩⟩
theorem ownsRow_blockBelow {W : World} {base : Nat} {e : TypeId} {size : Nat} {v : Value} {n : Nat} {xs : List Value} (h : W.ownsRow base e size v n xs) : ∀ k, v.ownBlock = some k → base ≤ k := fun k hk => (h.lt k hk).1

theorem Blk.newAt (X : World) (o : Obj) (k : Nat) (h : k = X.heap.size) : Blk (X.alloc o) k o := by subst h; exact Blk.new X o
/- a list of integers by its index -/
def nth (l : List Int) (k : Nat) : Int := l.getD k 0
theorem nth_get {l : List Int} {k : Nat} (h : k < l.length) : l[k]? = some (nth l k) := by
  unfold nth; rw [List.getD_eq_getElem?_getD, List.getElem?_eq_getElem h]; rfl
theorem nth_of {l : List Int} {k : Nat} {x : Int} (h : l[k]? = some x) : nth l k = x := by
  unfold nth; rw [List.getD_eq_getElem?_getD, h]; rfl
def ints (l : List Int) : List Value := l.map (Value.int .i64)
theorem ints_len (l : List Int) : (ints l).length = l.length := by simp [ints]
theorem ints_get {l : List Int} {k : Nat} (h : k < l.length) : (ints l)[k]? = some (.int .i64 (nth l k)) := by
  unfold ints; rw [List.getElem?_map, nth_get h]; rfl
theorem ints_snoc (l : List Int) (x : Int) : ints (l ++ [x]) = ints l ++ [.int .i64 x] := by simp [ints]
theorem ints_set (l : List Int) (j : Nat) (x : Int) : (ints l).set j (.int .i64 x) = ints (l.set j x) := by simp [ints, List.map_set]
theorem ints_replicate (n : Nat) (x : Int) : List.replicate n (Value.int .i64 x) = ints (List.replicate n x) := by simp [ints]
theorem ints_one (l : List Int) : ∀ u ∈ ints l, u.oneCell' = true := by
  intro u hu
  obtain ⟨x, -, rfl⟩ := List.mem_map.1 hu
  rfl
/- an owned row of integers, read -/
theorem ints_at {w : World} {base : Nat} {E : TypeId} {v : Value} {l : List Int} (h : w.ownsRow base E 1 v l.length (ints l)) :
    ∃ a c, v = .slice a l.length c ∧ l.length ≤ c ∧ c ≤ maxLen ∧ (a = none → l.length = 0) ∧ IntsAt w a l.length (nth l) :=
  ownsRow_at h _ (fun k hk => ints_get (by omega))
/- the list that lies at a -/
def listOf (n : Nat) (z : Nat → Int) : List Int := (List.range n).map z
theorem listOf_len (n : Nat) (z : Nat → Int) : (listOf n z).length = n := by simp [listOf]
theorem listOf_get {n : Nat} {z : Nat → Int} {k : Nat} (h : k < n) : (listOf n z)[k]? = some (z k) := by
  unfold listOf; rw [List.getElem?_map, List.getElem?_range h]; rfl
theorem listOf_nth {n : Nat} {z : Nat → Int} {k : Nat} (h : k < n) : nth (listOf n z) k = z k := nth_of (listOf_get h)
theorem listOf_succ (n : Nat) (z : Nat → Int) : listOf (n + 1) z = listOf n z ++ [z n] := by simp [listOf, List.range_succ]
theorem listOf_self (l : List Int) : listOf l.length (nth l) = l := by
  apply List.ext_getElem?
  intro k
  rcases Nat.lt_or_ge k l.length with h | h
  · rw [listOf_get h, nth_get h]
  · rw [List.getElem?_eq_none (by rw [listOf_len]; exact h), List.getElem?_eq_none h]
theorem IntsAt.of_list {w : World} {a : Option Addr} {n : Nat} {z y : Nat → Int} (h : IntsAt w a n z) (he : ∀ k, k < n → z k = y k) : IntsAt w a n y := by
  intro hn
  obtain ⟨b, off, ha, hb, hc⟩ := h hn
  exact ⟨b, off, ha, hb, fun k hk => by rw [hc k hk]; simp only [he k (by omega)]⟩
/- a slice of integers was made, with more results behind it -/
def MadeInts (w : World) (E : TypeId) (l : List Int) (more : List Value) (e : Ending) (w' : World) : Prop :=
  ∃ v, e = .returned (.tuple (v :: more).toArray) ∧ w'.ownsRow w.heap.size E 1 v l.length (ints l) ∧ Below w.heap.size w w'

end Go.Proofs.Ytfhcciepaangiaa
