/- What Check accepts: exactly the positions in good order. -/
import Derived.Test.YthjcdlbkdobmiaaCc0
import Derived.Test.YthjcdlbkdobmiaaCc1
set_option linter.unusedVariables false
set_option linter.unusedSimpArgs false
namespace Go.Proofs.Ythjcdlbkdobmiaa
def Vn (n : Nat) (s : ByteArray) : Prop := g22 n s = some true
/- the sectors of one position, after those of the earlier ones -/
structure InOk (n : Nat) (L s : List ByteArray) : Prop where
  nam : ∀ x ∈ s, Vn n x
  sor : s.Pairwise LeS
  dup : (L ++ s).Nodup
  all : (L ++ s).length ≤ 12
theorem InOk.left {n : Nat} {L s t : List ByteArray} (h : InOk n L (s ++ t)) : InOk n L s := by
  refine ⟨fun x hx => h.nam x (by simp [hx]), (List.pairwise_append.1 h.sor).1, ?_, ?_⟩
  · have := h.dup
    rw [← List.append_assoc] at this
    exact (List.nodup_append.1 this).1
  · have := h.all
    rw [← List.append_assoc, List.length_append] at this
    omega
theorem pw_snoc {α : Type} {R : α → α → Prop} (ht : ∀ a b c, R a b → R b c → R a c) {l : List α} {x : α} (h : l.Pairwise R) (hl : ∀ i y, i + 1 = l.length → l[i]? = some y → R y x) : (l ++ [x]).Pairwise R := by
  refine adj_pw ht fun i a b ha hb => ?_
  rcases Nat.lt_trichotomy (i + 1) l.length with k | k | k
  · rw [List.getElem?_append_left (by omega)] at ha
    rw [List.getElem?_append_left k] at hb
    exact pw_adj h ha hb
  · rw [List.getElem?_append_left (by omega)] at ha
    rw [List.getElem?_append_right (by omega), k, Nat.sub_self] at hb
    cases hb
    exact hl i a k ha
  · rw [List.getElem?_append_right (by omega), show i + 1 - l.length = (i - l.length) + 1 by omega] at hb
    cases hb
theorem inner_iff (n : Nat) (hn : 30 < n) (a : List TConfigGroup) (c : Int) (v : Int) (s : List ByteArray) (p : ByteArray) (L : List ByteArray) (hL : L.length ≤ 12) (hLd : L.Nodup) : ∃ r, iterO (fun y : Int × List ByteArray => S11_0_0 n a 0 c v s (s.length : Int) p y.1 y.2) n ((0), L) = some r ∧ ((¬ InOk n L s ∧ ∃ z, z ≠ 0 ∧ r = .inr z) ∨ (InOk n L s ∧ r = .inl (IntKind.wrap .i64 (v + 1), L ++ s))) := by
  refine iterO_rule (fun y : Int × List ByteArray => ∃ j : Nat, j ≤ s.length ∧ y = ((j : Int), L ++ s.take j) ∧ InOk n L (s.take j)) _ (fun y => 13 - y.2.length) ?_ n _ ⟨0, Nat.zero_le _, by simp, ⟨by simp, by simp, by simpa using hLd, by simpa using hL⟩⟩ (by show 13 - _ < n; omega)
  rintro _ ⟨j, hj, rfl, hI⟩
  show (∃ y, S11_0_0 n a 0 c v s (s.length : Int) p (j : Int) (L ++ s.take j) = some (.inl y) ∧ _ ∧ _) ∨ ∃ r, S11_0_0 n a 0 c v s (s.length : Int) p (j : Int) (L ++ s.take j) = some (.inr r) ∧ _
  have hM := hI.all
  have hjl : j ≤ 12 := by rw [List.length_append, List.length_take] at hM; omega
  rcases Nat.lt_or_ge j s.length with hlt | hge
  · have hx : s[j]? = some s[j] := List.getElem?_eq_getElem hlt
    generalize s[j] = x at hx
    have hxm := List.mem_of_getElem? hx
    have hval := has_val n (L ++ s.take j) (by omega) (by omega) x
    have hsp : s.take j ++ [x] ++ s.drop (j + 1) = s := by rw [← take_one hx, List.take_append_drop]
    have hleft : InOk n L s → InOk n L (s.take j ++ [x]) := fun h => by rw [← hsp] at h; exact h.left
    obtain ⟨b, hb, -⟩ := name_ok n (by omega) x
    unfold S11_0_0
    rw [decide_eq_true (show (j : Int) < (s.length : Int) by omega), cond_true, getI_at hx, Option.bind_some, hb, Option.bind_some]
    cases b with
    | false =>
      refine .inr ⟨_, rfl, .inl ⟨fun h => ?_, 3, by decide, rfl⟩⟩
      have := h.nam x hxm
      unfold Vn at this
      rw [hb] at this; cases this
    | true =>
    rw [Bool.not_true, cond_false, hval, Option.bind_some]
    cases hhas : has (L ++ s.take j) x with
    | true =>
      refine .inr ⟨_, rfl, .inl ⟨fun h => ?_, 7, by decide, rfl⟩⟩
      have := (hleft h).dup
      rw [← List.append_assoc, List.nodup_append] at this
      exact this.2.2 x (has_iff.1 hhas) x (by simp) rfl
    | false =>
    rw [cond_false]
    have hnew : x ∉ L ++ s.take j := fun h => by rw [has_iff.2 h] at hhas; cases hhas
    have tail : (∀ i y, i + 1 = j → s[i]? = some y → LeS y x) → ((∃ y, (bif (((L ++ s.take j).length : Int) == (12)) then some (.inr (.inr (2))) else (roomO ((L ++ s.take j).length + ([x] : List ByteArray).length) 16).bind fun _ => some (.inl ((IntKind.wrap .i64 ((j : Int) + (1))), ((L ++ s.take j) ++ ([x] : List ByteArray)))) : Option ((Int × List ByteArray) ⊕ ((Int × List ByteArray) ⊕ Int))) = some (.inl y) ∧ (∃ j' : Nat, j' ≤ s.length ∧ y = ((j' : Int), L ++ s.take j') ∧ InOk n L (s.take j')) ∧ 13 - y.2.length < 13 - (L ++ s.take j).length) ∨ ∃ r, (bif (((L ++ s.take j).length : Int) == (12)) then some (.inr (.inr (2))) else (roomO ((L ++ s.take j).length + ([x] : List ByteArray).length) 16).bind fun _ => some (.inl ((IntKind.wrap .i64 ((j : Int) + (1))), ((L ++ s.take j) ++ ([x] : List ByteArray)))) : Option ((Int × List ByteArray) ⊕ ((Int × List ByteArray) ⊕ Int))) = some (.inr r) ∧ ((¬ InOk n L s ∧ ∃ z, z ≠ 0 ∧ r = .inr z) ∨ (InOk n L s ∧ r = .inl (IntKind.wrap .i64 (v + 1), L ++ s)))) := by
      intro hadj
      have e : (L ++ s.take j) ++ [x] = L ++ s.take (j + 1) := by rw [take_one hx, List.append_assoc]
      have hle : (L ++ s.take (j + 1)).length = (L ++ s.take j).length + 1 := by rw [← e]; simp; omega
      by_cases h12 : (((L ++ s.take j).length : Int) = 12)
      · rw [beq_iff_eq.2 h12, cond_true]
        refine .inr ⟨_, rfl, .inl ⟨fun h => ?_, 2, by decide, rfl⟩⟩
        have := (hleft h).all
        rw [← List.append_assoc, e] at this
        omega
      · rw [beq_eq_false_iff_ne.2 h12, cond_false, room_of (by simp only [List.length_singleton]; omega) (by simp only [List.length_singleton]; omega), Option.bind_some, wS (by omega)]
        rw [e]
        refine .inl ⟨_, rfl, ⟨j + 1, hlt, rfl, ?_⟩, by show 13 - (L ++ s.take (j + 1)).length < _; omega⟩
        refine ⟨fun y hy => ?_, ?_, ?_, by omega⟩
        · rw [take_one hx] at hy
          rcases List.mem_append.1 hy with k | k
          · exact hI.nam y k
          · rw [List.mem_singleton.1 k]; exact hb
        · rw [take_one hx]
          refine pw_snoc les_tra hI.sor fun i y hi hy => ?_
          rw [List.length_take] at hi
          rw [List.getElem?_take_of_lt (by omega)] at hy
          exact hadj i y (by omega) hy
        · rw [← e, List.nodup_append]
          refine ⟨hI.dup, by simp, fun p hp q hq => ?_⟩
          rw [List.mem_singleton.1 hq]
          rintro rfl
          exact hnew hp
    by_cases hj0 : (j : Int) > 0
    · obtain ⟨i, rfl⟩ : ∃ i, j = i + 1 := ⟨j - 1, by omega⟩
      have hw : IntKind.wrap .i64 (((i + 1 : Nat) : Int) - 1) = (i : Int) := by rw [wrap64 (by omega) (by omega)]; omega
      have hy : s[i]? = some s[i] := List.getElem?_eq_getElem (by omega)
      rw [decide_eq_true hj0, cond_true, hw, getI_at hy, Option.bind_some]
      cases hless : Op.bytesLess x.toList (s[i]).toList with
      | true =>
        refine .inr ⟨_, rfl, .inl ⟨fun h => ?_, 7, by decide, rfl⟩⟩
        have := pw_adj h.sor hy hx
        unfold LeS at this
        rw [hless] at this; cases this
      | false =>
        rw [cond_false]
        refine tail fun q y hq hyq => ?_
        obtain rfl : q = i := by omega
        rw [hy] at hyq
        cases hyq
        exact hless
    · rw [decide_eq_false hj0, cond_false]; exact tail fun i y hi => by omega
  · have hj' : j = s.length := by omega
    subst hj'
    unfold S11_0_0
    rw [decide_eq_false (Int.lt_irrefl _), cond_false]
    refine .inr ⟨_, rfl, .inr ⟨by rw [List.take_length] at hI; exact hI, by rw [List.take_length]⟩⟩
theorem CfGd.left {V : ByteArray → Prop} {l k : List TConfigGroup} (h : CfGd V (l ++ k)) : CfGd V l := by
  refine ⟨(List.pairwise_append.1 h.pos).1, fun g hg => h.nam g (by simp [hg]), ?_, ?_⟩
  · have := h.dup
    rw [List.flatMap_append] at this
    exact (List.nodup_append.1 this).1
  · have := h.all
    rw [List.flatMap_append, List.length_append] at this
    omega
theorem flat_len {V : ByteArray → Prop} : ∀ {l : List TConfigGroup}, (∀ g ∈ l, g.Sectors ≠ []) → l.length ≤ (l.flatMap (·.Sectors)).length
  | [], _ => Nat.le_refl _
  | g :: l, h => by
    have h1 := flat_len (V := V) (l := l) fun q hq => h q (by simp [hq])
    have h2 := List.length_pos_iff.2 (h g (by simp))
    rw [List.flatMap_cons, List.length_append, List.length_cons]
    omega
theorem ltp_tra (a b c : TConfigGroup) (h1 : LtP a b) (h2 : LtP b c) : LtP a c := less_tra _ _ _ h1 h2
theorem check_iff (n : Nat) (hn : 30 < n) (a : List TConfigGroup) : ∃ z, g11 n a = some z ∧ (z = 0 ↔ CfGd (Vn n) a) := by
  unfold g11
  by_cases hl : (a.length : Int) > 12
  · rw [decide_eq_true hl, cond_true]
    refine ⟨2, rfl, ⟨fun h => absurd h (by decide), fun h => ?_⟩⟩
    have := flat_len (V := Vn n) (l := a) fun g hg => (h.nam g hg).2.1
    have := h.all
    omega
  rw [decide_eq_false hl, cond_false]
  refine iterO_rule (S := fun y : Int × List ByteArray => S11_0 n a (0) (a.length : Int) y.1 y.2) (fun y => ∃ i : Nat, i ≤ a.length ∧ y = ((i : Int), (a.take i).flatMap (·.Sectors)) ∧ CfGd (Vn n) (a.take i)) (fun z => z = 0 ↔ CfGd (Vn n) a) (fun y => a.length - y.1.toNat) ?_ n _ ⟨0, Nat.zero_le _, rfl, ⟨.nil, (by simp), .nil, Nat.zero_le _⟩⟩ (by show a.length - (0 : Int).toNat < n; omega)
  rintro _ ⟨i, hi, rfl, hG⟩
  show (∃ y, S11_0 n a (0) (a.length : Int) (i : Int) ((a.take i).flatMap (·.Sectors)) = some (.inl y) ∧ _ ∧ _) ∨ ∃ r, S11_0 n a (0) (a.length : Int) (i : Int) ((a.take i).flatMap (·.Sectors)) = some (.inr r) ∧ _
  rcases Nat.lt_or_ge i a.length with hlt | hge
  · have hx : a[i]? = some a[i] := List.getElem?_eq_getElem hlt
    generalize a[i] = g at hx
    have hgm := List.mem_of_getElem? hx
    have bad : ∀ z : Int, z ≠ 0 → ¬ CfGd (Vn n) a → (z = 0 ↔ CfGd (Vn n) a) := fun z h1 h2 => ⟨fun h => absurd h h1, fun h => absurd h h2⟩
    have hsp : a.take i ++ [g] ++ a.drop (i + 1) = a := by rw [← take_one hx, List.take_append_drop]
    have hleft : CfGd (Vn n) a → CfGd (Vn n) (a.take i ++ [g]) := fun h => by rw [← hsp] at h; exact h.left
    obtain ⟨b, hb, -⟩ := name_ok n (by omega) g.Position
    unfold S11_0
    rw [decide_eq_true (show (i : Int) < (a.length : Int) by omega), cond_true, getI_at hx, Option.bind_some, hb, Option.bind_some]
    cases b with
    | false =>
      refine .inr ⟨_, rfl, bad 3 (by decide) fun h => ?_⟩
      have := (h.nam g hgm).1
      unfold Vn at this
      rw [hb] at this; cases this
    | true =>
    rw [Bool.not_true, cond_false]
    have tail : (∀ q y, q + 1 = i → a[q]? = some y → LtP y g) → ((∃ y, (bif ((g.Sectors.length : Int) == (0)) then some (.inr (8)) else iterO (fun y : Int × List ByteArray => S11_0_0 n a 0 (a.length : Int) (i : Int) g.Sectors (g.Sectors.length : Int) g.Position y.1 y.2) n ((0), (a.take i).flatMap (·.Sectors)) : Option ((Int × List ByteArray) ⊕ Int)) = some (.inl y) ∧ (∃ i' : Nat, i' ≤ a.length ∧ y = ((i' : Int), (a.take i').flatMap (·.Sectors)) ∧ CfGd (Vn n) (a.take i')) ∧ a.length - y.1.toNat < a.length - (i : Int).toNat) ∨ ∃ r, (bif ((g.Sectors.length : Int) == (0)) then some (.inr (8)) else iterO (fun y : Int × List ByteArray => S11_0_0 n a 0 (a.length : Int) (i : Int) g.Sectors (g.Sectors.length : Int) g.Position y.1 y.2) n ((0), (a.take i).flatMap (·.Sectors)) : Option ((Int × List ByteArray) ⊕ Int)) = some (.inr r) ∧ (r = 0 ↔ CfGd (Vn n) a)) := by
      intro hadj
      by_cases h0 : (g.Sectors.length : Int) = 0
      · rw [beq_iff_eq.2 h0, cond_true]
        exact .inr ⟨_, rfl, bad 8 (by decide) fun h => (h.nam g hgm).2.1 (List.length_eq_zero_iff.1 (by omega))⟩
      rw [beq_eq_false_iff_ne.2 h0, cond_false]
      have e : (a.take i).flatMap (·.Sectors) ++ g.Sectors = (a.take (i + 1)).flatMap (·.Sectors) := by rw [take_one hx]; simp
      obtain ⟨r, hr, ⟨hno, z, hz, rfl⟩ | ⟨hyes, rfl⟩⟩ := inner_iff n hn a (a.length : Int) (i : Int) g.Sectors g.Position ((a.take i).flatMap (·.Sectors)) hG.all hG.dup
      · refine .inr ⟨z, hr, bad z hz fun h => hno ?_⟩
        have h1 := hleft h
        have hg := h.nam g hgm
        refine ⟨hg.2.2.1, hg.2.2.2, ?_, ?_⟩
        · have := h1.dup
          rw [← take_one hx] at this
          rw [e]; exact this
        · have := h1.all
          rw [← take_one hx] at this
          rw [e]; exact this
      · rw [wS (by omega)] at hr
        have hd := hyes.dup
        have ha := hyes.all
        rw [e] at hr hd ha
        refine .inl ⟨_, hr, ⟨i + 1, hlt, rfl, ⟨?_, fun q hq => ?_, hd, ha⟩⟩, by show a.length - ((i + 1 : Nat) : Int).toNat < _; omega⟩
        · rw [take_one hx]
          refine pw_snoc ltp_tra hG.pos fun q y hq hy => ?_
          rw [List.length_take] at hq
          rw [List.getElem?_take_of_lt (by omega)] at hy
          exact hadj q y (by omega) hy
        · rw [take_one hx] at hq
          rcases List.mem_append.1 hq with k | k
          · exact hG.nam q k
          · rw [List.mem_singleton.1 k]
            exact ⟨hb, fun e => by rw [e] at h0; exact h0 rfl, hyes.nam, hyes.sor⟩
    by_cases hi0 : (i : Int) > 0
    · obtain ⟨q, rfl⟩ : ∃ q, i = q + 1 := ⟨i - 1, by omega⟩
      have hw : IntKind.wrap .i64 (((q + 1 : Nat) : Int) - 1) = (q : Int) := by rw [wrap64 (by omega) (by omega)]; omega
      have hy : a[q]? = some a[q] := List.getElem?_eq_getElem (by omega)
      rw [decide_eq_true hi0, cond_true, hw, getI_at hy, Option.bind_some]
      cases hc : (Op.bytesLess (g.Position).toList ((a[q]).Position).toList || (g.Position).toList == ((a[q]).Position).toList) with
      | true =>
        refine .inr ⟨_, rfl, bad 7 (by decide) fun h => ?_⟩
        have := pw_adj h.pos hy hx
        unfold LtP at this
        rcases Bool.or_eq_true_iff.1 hc with k | k
        · rw [less_asy _ _ k] at this; cases this
        · rw [beq_iff_eq.1 k, less_irr] at this; cases this
      | false =>
        rw [cond_false]
        refine tail fun j y hj hyj => ?_
        obtain rfl : j = q := by omega
        rw [hy] at hyj
        cases hyj
        rw [Bool.or_eq_false_iff] at hc
        rcases less_tot (a[j]).Position.toList g.Position.toList with k | k | k
        · exact k
        · rw [k] at hc; cases hc.1
        · rw [k] at hc; simp at hc
    · rw [decide_eq_false hi0, cond_false]; exact tail fun j y hj => by omega
  · have hi' : i = a.length := by omega
    subst hi'
    unfold S11_0
    rw [decide_eq_false (Int.lt_irrefl _), cond_false]
    rw [List.take_length] at hG
    exact .inr ⟨_, rfl, fun _ => hG, fun _ => rfl⟩
theorem CfGd.ok {n : Nat} (hn : 30 < n) {a : List TConfigGroup} (h : CfGd (Vn n) a) : g11 n a = some 0 ∧ CfOk a := by
  obtain ⟨z, hz, k⟩ := check_iff n hn a
  obtain ⟨y, hy, k2⟩ := check_cases n hn a
  obtain rfl := k.2 h
  rw [hz] at hy
  cases hy
  exact ⟨hz, k2 rfl⟩
end Go.Proofs.Ythjcdlbkdobmiaa
