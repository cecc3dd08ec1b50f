/- The natural order, shifts, and all orders as plain lists. -/
import Derived.Test.YtfmodgffhbljoaaSq1
import Derived.Test.YtfmodgffhbljoaaCmp
import Derived.Test.YtfmodgffhbljoaaBeC
set_option linter.unusedVariables false
set_option linter.unusedSimpArgs false
namespace Go.Proofs.Ytfmodgffhbljoaa

theorem or_eq (n : Nat) (hn : 5 < n) (d c : Int) : g58 n [d, c] = some (if d = 0 then c else d) := by
  unfold g58
  obtain ⟨k, rfl⟩ : ∃ k, n = k + 3 := ⟨n - 3, by omega⟩
  have hS : ∀ i : Int, S58_0 (k + 3) 0 [d, c] (2 : Int) i = (if i < 2 then (getI [d, c] i).bind fun x => if x = 0 then some (.inl (IntKind.wrap .i64 (i + 1))) else some (.inr x) else some (.inr 0)) := by
    intro i
    unfold S58_0
    by_cases h : i < 2
    · rw [decide_eq_true h, if_pos h, cond_true]
      congr 1
      funext x
      by_cases hx : x = 0
      · simp [hx]
      · rw [if_neg hx, bne_iff_ne.2 hx]; rfl
    · rw [decide_eq_false h, if_neg h]; rfl
  have e1 : IntKind.wrap .i64 (1 : Int) = 1 := by decide
  have e2 : IntKind.wrap .i64 (2 : Int) = 2 := by decide
  show iterO (fun y : Int => S58_0 (k + 3) 0 [d, c] (2 : Int) y) (k + 3) 0 = _
  simp only [hS]
  by_cases hd : d = 0
  · by_cases hc : c = 0
    · simp [iterO, getI, hd, hc, e1, e2]
    · simp [iterO, getI, hd, hc, e1, e2]
  · simp [iterO, getI, hd, e1]
def cmpN (l : List TSequenceArrival) (i j : Int) : Option Int := (getI l i).bind fun a => (getI l j).bind fun b => some (if IntKind.wrap .i64 (a.Time - b.Time) = 0 then cmpC a.Call b.Call else IntKind.wrap .i64 (a.Time - b.Time))
theorem cmpN_eq (n : Nat) (hn : 5 < n) (l : List TSequenceArrival) (i j : Int) : g57 n i j l = cmpN l i j := by
  unfold g57 cmpN
  cases ha : getI l i with
  | none => rfl
  | some a =>
    cases hb : getI l j with
    | none => rfl
    | some b =>
      simp only [Option.bind_some, cmpC_eq, or_eq n hn]
theorem lt_iff {l : List TSequenceArrival} (hl : ArrOk l) {i j : Int} {a b : TSequenceArrival} (ha : getI l i = some a) (hb : getI l j = some b) (ma : a ∈ l) (mb : b ∈ l) : ltO (fun x y => cmpN l x y) i j = true ↔ a.Time < b.Time ∨ (a.Time = b.Time ∧ Op.bytesLess a.Call.toList b.Call.toList = true) := by
  have h1 := hl.each a ma
  have h2 := hl.each b mb
  unfold ltO
  simp only [cmpN, ha, hb, Option.bind_some, Option.getD_some, decide_eq_true_eq]
  rw [wrap64 (by omega) (by omega)]
  by_cases h : a.Time - b.Time = 0
  · rw [if_pos h]
    unfold cmpC
    by_cases q : Op.bytesLess a.Call.toList b.Call.toList = true
    · simp [q]; omega
    · rw [if_neg q]
      have : Op.bytesLess a.Call.toList b.Call.toList = false := by simpa using q
      rw [this]
      constructor
      · intro h; split at h <;> omega
      · rintro (h | ⟨-, h⟩)
        · omega
        · cases h
  · rw [if_neg h]
    constructor
    · intro h; exact .inl (by omega)
    · rintro (h | ⟨h, -⟩) <;> omega
theorem ord_on {l : List TSequenceArrival} (hl : ArrOk l) (L : List Int) (hL : ∀ x ∈ L, 0 ≤ x ∧ x < (l.length : Int)) : OrdOn (fun x y => cmpN l x y) L := by
  have at_ : ∀ x ∈ L, ∃ a, getI l x = some a ∧ a ∈ l ∧ ∃ k : Nat, x = (k : Int) ∧ l[k]? = some a := fun x hx => by
    obtain ⟨h0, h1⟩ := hL x hx
    obtain ⟨k, rfl⟩ : ∃ k : Nat, x = (k : Int) := ⟨x.toNat, by omega⟩
    have : k < l.length := by omega
    exact ⟨l[k], by rw [getI_nat]; exact List.getElem?_eq_getElem this, List.getElem_mem _, k, rfl, List.getElem?_eq_getElem this⟩
  refine ⟨fun x hx y hy => ?_, fun x hx y hy => ?_, fun x hx y hy h => ?_, fun x hx y hy z hz h1 h2 => ?_⟩
  · obtain ⟨a, ha, -⟩ := at_ x hx
    obtain ⟨b, hb, -⟩ := at_ y hy
    simp only [cmpN, ha, hb, Option.bind_some]
    exact ⟨_, rfl⟩
  · obtain ⟨a, ha, ma, i, rfl, ia⟩ := at_ x hx
    obtain ⟨b, hb, mb, j, rfl, jb⟩ := at_ y hy
    rw [lt_iff hl ha hb ma mb, lt_iff hl hb ha mb ma]
    rcases Int.lt_trichotomy a.Time b.Time with h | h | h
    · exact .inl (.inl h)
    · rcases less_tot a.Call.toList b.Call.toList with q | q | q
      · exact .inl (.inr ⟨h, q⟩)
      · exact .inr (.inl (.inr ⟨h.symm, q⟩))
      · refine .inr (.inr ?_)
        rcases Nat.lt_trichotomy i j with e | e | e
        · exact absurd q (hl.names i j a b e ia jb)
        · rw [e]
        · exact absurd q.symm (hl.names j i b a e jb ia)
    · exact .inr (.inl (.inl h))
  · obtain ⟨a, ha, ma, -⟩ := at_ x hx
    obtain ⟨b, hb, mb, -⟩ := at_ y hy
    rw [lt_iff hl ha hb ma mb] at h
    rw [Bool.eq_false_iff, Ne, lt_iff hl hb ha mb ma]
    rcases h with h | ⟨h, q⟩
    · rintro (k | ⟨k, -⟩) <;> omega
    · rintro (k | ⟨k, p⟩)
      · omega
      · rw [less_asy _ _ q] at p; cases p
  · obtain ⟨a, ha, ma, -⟩ := at_ x hx
    obtain ⟨b, hb, mb, -⟩ := at_ y hy
    obtain ⟨c, hc, mc, -⟩ := at_ z hz
    rw [lt_iff hl ha hb ma mb] at h1
    rw [lt_iff hl hb hc mb mc] at h2
    rw [lt_iff hl ha hc ma mc]
    rcases h1 with h | ⟨h, q⟩
    · rcases h2 with k | ⟨k, p⟩
      · exact .inl (by omega)
      · exact .inl (by omega)
    · rcases h2 with k | ⟨k, p⟩
      · exact .inl (by omega)
      · exact .inr ⟨by omega, less_tra _ _ _ q p⟩
def ints0 (k : Nat) : List Int := (List.range k).map fun (i : Nat) => (i : Int)
theorem nat_eq (n : Nat) (hn : 100 < n) (l : List TSequenceArrival) (hl8 : l.length ≤ 8) (h0 : g50 n l = some 0) : g31 n l = (sortO (fun x y => cmpN l x y) (ints0 l.length)).map fun x => (x, 0) := by
  unfold g31
  rw [h0]
  simp only [Option.bind_some, bne_self_eq_false, cond_false]
  have key : ∀ (m i : Nat), i ≤ l.length → l.length - i < m → iterO (fun y : Int × List Int => S31_0 n 0 (l.length : Int) l y.1 y.2) m ((i : Int), ints0 i) = (sortO (fun x y => cmpN l x y) (ints0 l.length)).map fun x => (x, 0) := by
    intro m
    induction m with
    | zero => intro i _ h; omega
    | succ m ih =>
      intro i hi hm
      unfold iterO
      rcases Nat.lt_or_ge i l.length with hlt | hge
      · have hS : S31_0 n 0 (l.length : Int) l (i : Int) (ints0 i) = some (.inl (((i + 1 : Nat) : Int), ints0 (i + 1))) := by
          unfold S31_0
          rw [decide_eq_true (show (i : Int) < (l.length : Int) by omega), cond_true, room_of (by simp [ints0]; omega) (by simp [ints0]; omega), wS (by omega)]
          simp [ints0, List.range_succ]
        simp only [hS]
        exact ih (i + 1) hlt (by omega)
      · obtain rfl : i = l.length := by omega
        have hS : S31_0 n 0 (l.length : Int) l (l.length : Int) (ints0 l.length) = (sortO (fun x y => cmpN l x y) (ints0 l.length)).map fun x => .inr (x, 0) := by
          unfold S31_0
          rw [decide_eq_false (show ¬ (l.length : Int) < (l.length : Int) by omega), cond_false]
          have : (fun x y => g57 n x y l) = fun x y => cmpN l x y := by
            funext x y; exact cmpN_eq n (by omega) l x y
          rw [this]
          cases sortO (fun x y => cmpN l x y) (ints0 l.length) <;> rfl
        simp only [hS]
        cases sortO (fun x y => cmpN l x y) (ints0 l.length) <;> rfl
  have := key n 0 (Nat.zero_le _) (by omega)
  exact this
theorem nat_tot (n : Nat) (hn : 100 < n) (l : List TSequenceArrival) (hl : ArrOk l) (h0 : g50 n l = some 0) : ∃ nat, g31 n l = some (nat, 0) ∧ nat.length = l.length := by
  have hlen := hl.len
  have ho := ord_on hl (ints0 l.length) (fun x hx => by
    unfold ints0 at hx
    obtain ⟨i, hi, rfl⟩ := List.mem_map.1 hx
    have := List.mem_range.1 hi
    omega)
  have e : sortO (fun x y => cmpN l x y) (ints0 l.length) = some (isortB (ltO fun x y => cmpN l x y) (ints0 l.length)) := by
    unfold sortO
    rw [orderB_on.2 ho, decide_eq_true (by simp [ints0]; omega)]; rfl
  refine ⟨_, by rw [nat_eq n hn l hlen h0, e]; rfl, ?_⟩
  rw [(sortO_facts e).1.length_eq]
  simp [ints0]
/- shifts -/
def shF (nat : List Int) : Int → List Int → Int → Int
  | _, [], v => v
  | k, i :: o, v => shF nat (k + 1) o (if (IntKind.wrap .i64 (0 - (IntKind.wrap .i64 (k - idxL (fun x => i == x) nat)))) > (if (IntKind.wrap .i64 (k - idxL (fun x => i == x) nat)) > v then (IntKind.wrap .i64 (k - idxL (fun x => i == x) nat)) else v) then (IntKind.wrap .i64 (0 - (IntKind.wrap .i64 (k - idxL (fun x => i == x) nat)))) else (if (IntKind.wrap .i64 (k - idxL (fun x => i == x) nat)) > v then (IntKind.wrap .i64 (k - idxL (fun x => i == x) nat)) else v))
theorem shift_eq (n : Nat) (hn : 100 < n) (nat o : List Int) (h1 : nat.length ≤ 8) (h2 : o.length ≤ 8) : g54 n nat o = some (shF nat 0 o 0) := by
  unfold g54
  generalize hR : shF nat 0 o 0 = R
  refine iterO_eq (fun y => ∃ (i : Nat) (v : Int), y = (v, (i : Int)) ∧ i ≤ o.length ∧ shF nat i (o.drop i) v = R) _ (fun y => o.length - y.2.toNat) ?_ n _ ⟨0, 0, rfl, Nat.zero_le _, hR⟩ (by simp; omega)
  rintro _ ⟨i, v, rfl, hi, hG⟩
  show (∃ y, S54_0 n nat 0 o (o.length : Int) v (i : Int) = some (.inl y) ∧ _) ∨ S54_0 n nat 0 o (o.length : Int) v (i : Int) = _
  unfold S54_0
  rcases Nat.lt_or_ge i o.length with hlt | hge
  · have hx : o[i]? = some o[i] := List.getElem?_eq_getElem hlt
    rw [List.drop_eq_getElem_cons hlt] at hG
    generalize o[i] = k at hx hG
    left
    rw [decide_eq_true (show (i : Int) < (o.length : Int) by omega), getI_at hx, wS (by omega)]
    simp only [cond_true, Option.bind_some, index_eq n nat k (by omega) (by omega)]
    exact ⟨_, rfl, ⟨i + 1, _, rfl, hlt, hG⟩, by simp; omega⟩
  · have : i = o.length := by omega
    rw [List.drop_eq_nil_of_le hge] at hG
    right
    rw [decide_eq_false (show ¬ (i : Int) < (o.length : Int) by omega), ← hG]; rfl
theorem idx_self {nat : List Int} (hd : nat.Nodup) {k : Nat} {i : Int} (h : nat[k]? = some i) : idxL (fun x => i == x) nat = (k : Int) := by
  have h0 : 0 ≤ idxL (fun x => i == x) nat := by
    refine Classical.byContradiction fun hn => ?_
    have := (idxL_neg (fun x => i == x) nat).1 (by omega) i (List.mem_of_getElem? h)
    simp at this
  obtain ⟨x, hx, hp, -⟩ := idxL_at (fun x => i == x) nat h0
  obtain rfl : i = x := by simpa using hp
  have hlt := (List.getElem?_eq_some_iff.1 h).1
  have := (List.getElem?_inj hlt hd).1 (h.trans hx.symm)
  omega
theorem shF_self {nat : List Int} (hd : nat.Nodup) : ∀ (o : List Int) (k : Nat), o = nat.drop k → shF nat (k : Int) o 0 = 0
  | [], k, _ => rfl
  | i :: o, k, h => by
    have hk : nat[k]? = some i := by
      have := congrArg (·[0]?) h
      simpa using this.symm
    have hlt := some_lt hk
    unfold shF
    rw [idx_self hd hk]
    have e : IntKind.wrap .i64 ((k : Int) - (k : Int)) = 0 := by rw [Int.sub_self]; decide
    have e2 : IntKind.wrap .i64 ((0 : Int) - 0) = 0 := by decide
    rw [e, e2]
    have := shF_self hd o (k + 1) (by
      rw [← List.tail_drop, ← h]; rfl)
    simpa using this
/- all orders -/
def ords (N : Nat) : Nat → List Int → List (List Int)
  | 0, o => [o]
  | k + 1, o => (List.range N).flatMap fun (i : Nat) => if ((i : Nat) : Int) ∈ o then [] else ords N k (o ++ [((i : Nat) : Int)])
theorem foldlM_flat {α β σ : Type} (vis : σ → β → Option σ) (f : α → List β) : ∀ (L : List α) (s : σ), (L.flatMap f).foldlM vis s = L.foldlM (fun s i => (f i).foldlM vis s) s
  | [], s => rfl
  | a :: L, s => by
    rw [List.flatMap_cons, List.foldlM_append, List.foldlM_cons]
    congr 1
    funext s
    exact foldlM_flat vis f L s
theorem ordR_eq {σ : Type} (N : Nat) (vis : σ → List Int → Option σ) : ∀ (k : Nat) (o : List Int) (s : σ), ordR N vis k o s = (ords N k o).foldlM vis s
  | 0, o, s => by
    unfold ordR ords
    simp
  | k + 1, o, s => by
    unfold ordR ords
    rw [foldlM_flat]
    congr 1
    funext s i
    by_cases h : (i : Int) ∈ o
    · rw [if_pos h, if_pos h]; rfl
    · rw [if_neg h, if_neg h]; exact ordR_eq N vis k _ s
theorem ords_ok (N : Nat) : ∀ (k : Nat) (o p : List Int), (∀ x ∈ o, 0 ≤ x ∧ x < (N : Int)) → o.Nodup → o.length + k = N → p ∈ ords N k o → OrdV N p
  | 0, o, p, h1, h2, h3, hp => by
    unfold ords at hp
    simp only [List.mem_singleton] at hp
    subst hp
    exact ⟨by omega, h1, h2⟩
  | k + 1, o, p, h1, h2, h3, hp => by
    unfold ords at hp
    obtain ⟨i, hi, hp⟩ := List.mem_flatMap.1 hp
    have hi := List.mem_range.1 hi
    split at hp
    · cases hp
    · rename_i hn
      refine ords_ok N k _ p (fun x hx => ?_) ?_ (by simp; omega) hp
      · rcases List.mem_append.1 hx with h | h
        · exact h1 x h
        · simp at h; omega
      · rw [List.nodup_append]
        exact ⟨h2, by simp, fun a ha b hb e => by simp at hb; subst e; subst hb; exact hn ha⟩
theorem mem_ords {N : Nat} {p : List Int} (hp : OrdV N p) : ∀ (k : Nat) (o : List Int), p.take o.length = o → o.length + k = N → p ∈ ords N k o
  | 0, o, h, hk => by
    unfold ords
    rw [List.take_of_length_le (by have := hp.1; omega)] at h
    simp [h]
  | k + 1, o, h, hk => by
    have hlt : o.length < p.length := by have := hp.1; omega
    have hm := List.getElem_mem hlt
    have htk := List.take_succ_eq_append_getElem hlt
    rw [h] at htk
    generalize p[o.length] = i at hm htk
    obtain ⟨r0, r1⟩ := hp.2.1 i hm
    obtain ⟨j, rfl⟩ : ∃ j : Nat, i = (j : Int) := ⟨i.toNat, by omega⟩
    have hni : (j : Int) ∉ o := by
      have : (o ++ [(j : Int)]).Nodup := by rw [← htk]; exact hp.2.2.sublist (List.take_sublist _ _)
      rw [List.nodup_append] at this
      exact fun h => absurd rfl (this.2.2 _ h _ (by simp))
    unfold ords
    refine List.mem_flatMap.2 ⟨j, List.mem_range.2 (by omega), ?_⟩
    rw [if_neg hni]
    exact mem_ords hp k _ (by simpa using htk) (by simp; omega)
end Go.Proofs.Ytfmodgffhbljoaa
