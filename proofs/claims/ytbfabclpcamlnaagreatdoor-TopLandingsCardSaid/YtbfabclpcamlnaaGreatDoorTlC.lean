/- Parts Sq1, Sq2, Ts3, Ts4, Tl2, Tl3, Tl4. -/
import Derived.Test.YtbfabclpcamlnaaGreatDoorTlA
import Derived.Test.YtbfabclpcamlnaaGreatDoorTab
import Derived.Test.YtbfabclpcamlnaaGreatDoorTlB
set_option linter.unusedVariables false
set_option linter.unusedSimpArgs false
namespace Go.Proofs.YtbfabclpcamlnaaGreatDoor
def Ky (nm : ByteArray) (s : Ad) : Bool := s.Call.toList == nm.toList
theorem vA (n : Nat) (l : List Ad) (c : ByteArray) (w t e : Int) (hl : l.length ≤ 1000) (hn : l.length < n) : jF n l c w t e = some (decide (Em (Ky c) l ≥ 0)) := by
  unfold jF nW
  have e := Jk (Ky c) l (by omega) (S := fun y : Int => Jw n l c w t e 0 (l.length : Int) y) (fun i x' hx => by
    have := Dn hx
    unfold Jw nS
    rw [decide_eq_true (show (i : Int) < _ by omega), Cw hx, wS (by omega)]
    simp only [cond_true, Option.bind_some, Ky]
    by_cases h : (x'.Call.toList == c.toList) = true <;> simp [h]) (by
    unfold Jw
    simp) n hn
  rw [e]; rfl
structure H5 (l : List Ad) : Prop where
  len : l.length ≤ 8
  each : ∀ x ∈ l, 0 ≤ x.Bc ∧ x.Bc ≤ 3 ∧ 0 ≤ x.Time ∧ x.Time ≤ x.Bs ∧ x.Bs ≤ 200000
  names : ∀ (i j : Nat) (x y : Ad), i < j → l[i]? = some x → l[j]? = some y → x.Call.toList ≠ y.Call.toList
theorem pW (n : Nat) (w : Int) : o9 n w = some (if 0 ≤ w ∧ w ≤ 3 then 0 else 1) := by
  unfold o9
  by_cases h1 : w < 0
  · rw [decide_eq_true h1, cond_true, if_neg (by omega)]
  · by_cases h2 : w > 3
    · rw [decide_eq_false h1, decide_eq_true h2, cond_false, cond_true, if_neg (by omega)]
    · rw [decide_eq_false h1, decide_eq_false h2, cond_false, cond_false, if_pos (by omega)]
theorem qW (n : Nat) (hn : 100 < n) (l : List Ad) : ∃ z, Wk n l = some z ∧ (z = 0 → H5 l) := by
  unfold Wk
  by_cases h1 : (l.length : Int) > 8
  · exact ⟨2, by simp [h1], fun h => absurd h (by decide)⟩
  rw [decide_eq_false h1, cond_false]
  have hl : l.length ≤ 8 := by omega
  obtain ⟨r, h, hr⟩ := Fj (S := fun y : Int => Hn n l 0 (l.length : Int) y) l (fun i x => (0 ≤ x.Bc ∧ x.Bc ≤ 3 ∧ 0 ≤ x.Time ∧ x.Time ≤ x.Bs ∧ x.Bs ≤ 200000) ∧ ∀ y ∈ l.take i, y.Call.toList ≠ x.Call.toList) (fun r => r ≠ 0) 0 (fun i x hx => by
    have hi := Dn hx
    obtain ⟨b, hb⟩ := lW n (by omega) x.Call
    have hh := vA n (l.take i) x.Call x.Bc x.Time x.Bs (by simp; omega) (by simp; omega)
    have hc := pW n x.Bc
    show Hn n l 0 (l.length : Int) (i : Int) = _ ∧ _ ∨ ∃ r, Hn n l 0 (l.length : Int) (i : Int) = _ ∧ _
    unfold Hn
    rw [decide_eq_true (show (i : Int) < _ by omega), Cw hx, wS (by omega), oA l i (by omega)]
    simp only [cond_true, Option.bind_some, hb, hh, hc]
    cases b with
    | false => right; exact ⟨3, rfl, by decide⟩
    | true =>
      simp only [Bool.not_true, cond_false]
      by_cases hw : 0 ≤ x.Bc ∧ x.Bc ≤ 3
      · rw [if_pos hw]
        simp only [bne_self_eq_false, cond_false]
        by_cases h2 : x.Time < 0
        · right; exact ⟨12, by rw [decide_eq_true h2]; rfl, by decide⟩
        by_cases h3 : x.Time > x.Bs
        · right; exact ⟨12, by rw [decide_eq_false h2, decide_eq_true h3]; rfl, by decide⟩
        by_cases h4 : x.Bs > 200000
        · right; exact ⟨12, by rw [decide_eq_false h2, decide_eq_false h3, decide_eq_true h4]; rfl, by decide⟩
        rw [decide_eq_false h2, decide_eq_false h3, decide_eq_false h4]
        simp only [cond_false]
        by_cases h5 : Em (Ky x.Call) (l.take i) ≥ 0
        · right; exact ⟨7, by rw [decide_eq_true h5]; rfl, by decide⟩
        · left
          rw [decide_eq_false h5]
          refine ⟨rfl, by omega, fun y hy e => ?_⟩
          have := (Jx (Ky x.Call) (l.take i)).1 (by omega) y hy
          unfold Ky at this
          rw [e, beq_self_eq_true] at this
          cases this
      · rw [if_neg hw]
        right; exact ⟨1, rfl, by decide⟩) (by
    show Hn n l 0 (l.length : Int) (l.length : Int) = _
    unfold Hn; simp) n (by omega)
  refine ⟨r, h, fun h0 => ?_⟩
  rcases hr with hr | ⟨-, hr⟩
  · exact absurd h0 hr
  refine ⟨hl, fun d hd => ?_, fun i j x y hij hx hy => ?_⟩
  · obtain ⟨i, hi, rfl⟩ := List.getElem_of_mem hd
    exact (hr i _ (List.getElem?_eq_getElem hi)).1
  · refine (hr j y hy).2 x ?_
    rw [List.mem_iff_getElem?]
    exact ⟨i, by rw [List.getElem?_take, if_pos hij]; exact hx⟩
def sJ (m : Nat) (o : List Int) : Prop := o.length = m ∧ (∀ x ∈ o, 0 ≤ x ∧ x < (m : Int)) ∧ o.Nodup
theorem mH (n : Nat) (hn : 100 < n) (o : List Int) (m : Nat) (hm : m ≤ 8) (hol : o.length ≤ 9223372036854775807) (hno : o.length < n) : ∃ b, g48 n o (m : Int) = some b ∧ (b = true ↔ sJ m o) := by
  unfold g48
  have hmk : Yy (m : Int) 1 = some m := by unfold Yy; simp; omega
  rw [hmk]
  simp only [Option.bind_some]
  refine Et (fun y => ∃ (i : Nat) (L : List Bool), y = ((i : Int), L) ∧ i ≤ o.length ∧ L.length = m ∧ (∀ x ∈ o.take i, 0 ≤ x ∧ x < m) ∧ (o.take i).Nodup ∧ ∀ j, j < m → L[j]? = some (decide ((j : Int) ∈ o.take i))) _ (fun y => o.length - y.1.toNat) ?_ n _ ⟨0, _, rfl, Nat.zero_le _, by simp, fun x hx => by simp at hx, by simp, fun j hj => by simp [hj]⟩ (by simpa using hno)
  rintro _ ⟨i, L, rfl, hi, hL, hP, hD, hM⟩
  rcases Nat.lt_or_ge i o.length with hlt | hge
  · have hx : o[i]? = some o[i] := List.getElem?_eq_getElem hlt
    have hmem := List.getElem_mem hlt
    have htk := List.take_succ_eq_append_getElem hlt
    generalize o[i] = x at hx htk hmem
    have hno1 : (o.take i ++ [x]).Sublist o := by rw [← htk]; exact List.take_sublist _ _
    by_cases h1 : x < 0
    · refine .inr ⟨false, ?_, ⟨(fun h => by cases h), fun h => by have := h.2.1 x hmem; omega⟩⟩
      show Hq n o (m : Int) false (o.length : Int) (i : Int) L = _
      unfold Hq
      rw [decide_eq_true (show (i : Int) < (o.length : Int) by omega), Cw hx]
      simp only [cond_true, Option.bind_some, decide_eq_true h1]
    by_cases h2 : x ≥ (m : Int)
    · refine .inr ⟨false, ?_, ⟨(fun h => by cases h), fun h => by have := h.2.1 x hmem; omega⟩⟩
      show Hq n o (m : Int) false (o.length : Int) (i : Int) L = _
      unfold Hq
      rw [decide_eq_true (show (i : Int) < (o.length : Int) by omega), Cw hx]
      simp only [cond_true, Option.bind_some, decide_eq_false h1, decide_eq_true h2, cond_false]
    obtain ⟨k, rfl⟩ : ∃ k : Nat, x = (k : Int) := ⟨x.toNat, by omega⟩
    have hk : k < m := by omega
    have hy : Bt L (k : Int) = some (decide ((k : Int) ∈ o.take i)) := by rw [Rs]; exact hM k hk
    by_cases hin : (k : Int) ∈ o.take i
    · rw [decide_eq_true hin] at hy
      refine .inr ⟨false, ?_, ⟨(fun h => by cases h), fun h => ?_⟩⟩
      · show Hq n o (m : Int) false (o.length : Int) (i : Int) L = _
        unfold Hq
        rw [decide_eq_true (show (i : Int) < (o.length : Int) by omega), Cw hx]
        simp only [cond_true, Option.bind_some, decide_eq_false h1, decide_eq_false h2, cond_false, hy]
      · have := h.2.2.sublist hno1
        rw [List.nodup_append] at this
        exact absurd rfl (this.2.2 _ hin _ (by simp))
    · rw [decide_eq_false hin] at hy
      refine .inl ⟨_, ?_, ⟨i + 1, L.set k true, rfl, hlt, by simpa using hL, fun z hz => ?_, ?_, fun j hj => ?_⟩, by simp; omega⟩
      · show Hq n o (m : Int) false (o.length : Int) (i : Int) L = _
        unfold Hq
        rw [decide_eq_true (show (i : Int) < (o.length : Int) by omega), Cw hx]
        simp only [cond_true, Option.bind_some, decide_eq_false h1, decide_eq_false h2, cond_false, hy, wS (show i < 9223372036854775807 by omega), Int.toNat_natCast]
      · rw [htk] at hz
        rcases List.mem_append.1 hz with hz | hz
        · exact hP z hz
        · simp at hz; subst hz; omega
      · rw [htk, List.nodup_append]
        exact ⟨hD, by simp, fun a ha b hb e => by simp at hb; subst e; subst hb; exact hin ha⟩
      · rw [htk]
        by_cases e : k = j
        · subst e
          rw [List.getElem?_set_self (by omega)]
          simp
        · rw [List.getElem?_set_ne e, hM j hj]
          have : ¬ ((j : Int) = (k : Int)) := by omega
          simp [this]
  · have : i = o.length := by omega
    subst this
    rw [List.take_length] at hP hD
    refine .inr ⟨((o.length : Int) == (m : Int)), ?_, ?_⟩
    · show Hq n o (m : Int) false (o.length : Int) (o.length : Int) L = _
      unfold Hq
      rw [decide_eq_false (show ¬ (o.length : Int) < (o.length : Int) by omega)]; rfl
    · exact ⟨fun h => ⟨by have := beq_iff_eq.1 h; omega, hP, hD⟩, fun h => beq_iff_eq.2 (by have := h.1; omega)⟩
def Wc (l : List Ad) (t : Ao) : List Int → Option (Int × Int) → List Int → List Int × Bool
  | [], _, acc => (acc, true)
  | i :: o, prev, acc => match Bt l i with
    | none => ([], false)
    | some a => match prev with
      | none => if a.Time > a.Bs then ([], false) else Wc l t o (some (a.Time, a.Bc)) (acc ++ [a.Time])
      | some (x, w) => if (if x + cell t w a.Bc > a.Time then x + cell t w a.Bc else a.Time) > a.Bs then ([], false) else Wc l t o (some ((if x + cell t w a.Bc > a.Time then x + cell t w a.Bc else a.Time), a.Bc)) (acc ++ [if x + cell t w a.Bc > a.Time then x + cell t w a.Bc else a.Time])
theorem Ua {l : List Ad} (hl : H5 l) {k : Int} (h0 : 0 ≤ k) (h1 : k < (l.length : Int)) : ∃ a, Bt l k = some a ∧ 0 ≤ a.Bc ∧ a.Bc ≤ 3 ∧ 0 ≤ a.Time ∧ a.Time ≤ a.Bs ∧ a.Bs ≤ 200000 := by
  refine ⟨l[k.toNat]'(by omega), by unfold Bt; rw [if_pos h0]; exact List.getElem?_eq_getElem (by omega), hl.each _ (List.getElem_mem _)⟩
theorem nM (n : Nat) (hn : 100 < n) (l : List Ad) (hl : H5 l) (o : List Int) (ho : o.length ≤ 8) (hr : ∀ x ∈ o, 0 ≤ x ∧ x < (l.length : Int)) (t : Ao) (ht : G1 t) : qD n l o t = some (Wc l t o none []) := by
  unfold qD
  generalize hR : Wc l t o none [] = R
  refine G4 (fun y => ∃ (i : Nat) (L : List Int) (prev : Option (Int × Int)), y = ((i : Int), L) ∧ i ≤ o.length ∧ L.length = i ∧ Wc l t (o.drop i) prev L = R ∧ (i = 0 → prev = none) ∧ ∀ m, i = m + 1 → ∃ k x a, o[m]? = some k ∧ L[m]? = some x ∧ Bt l k = some a ∧ prev = some (x, a.Bc) ∧ 0 ≤ x ∧ x ≤ 200000) _ (fun y => o.length - y.1.toNat) ?_ n _ ⟨0, [], none, rfl, Nat.zero_le _, rfl, hR, fun _ => rfl, fun m h => by omega⟩ (by simp; omega)
  rintro _ ⟨i, L, prev, rfl, hi, hL, hG, hp0, hp1⟩
  rcases Nat.lt_or_ge i o.length with hlt | hge
  · have hx : o[i]? = some o[i] := List.getElem?_eq_getElem hlt
    have hm := List.getElem_mem hlt
    rw [List.drop_eq_getElem_cons hlt] at hG
    generalize o[i] = k at hx hm hG
    obtain ⟨hk0, hk1⟩ := hr k hm
    obtain ⟨a, ha, w0, w1, a0, a1, a2⟩ := Ua hl hk0 hk1
    unfold Wc at hG
    rw [ha] at hG
    simp only at hG
    show (∃ y, H7 n l o false (o.length : Int) t.Cf t.Ce t.Ci t.Cn t.Cd t.Cl t.Cr t.Co t.Cm t.Ck t.Ch t.Cg t.Cb t.Cj t.Cq t.Cp (i : Int) L = some (.inl y) ∧ _) ∨ H7 n l o false (o.length : Int) t.Cf t.Ce t.Ci t.Cn t.Cd t.Cl t.Cr t.Co t.Cm t.Ck t.Ch t.Cg t.Cb t.Cj t.Cq t.Cp (i : Int) L = _
    unfold H7
    rw [decide_eq_true (show (i : Int) < (o.length : Int) by omega), Cw hx, wS (by omega)]
    simp only [cond_true, Option.bind_some, ha]
    rcases Nat.eq_zero_or_pos i with h0 | h0
    · subst h0
      rw [hp0 rfl] at hG
      simp only at hG
      rw [decide_eq_false (show ¬ (((0 : Nat) : Int) > 0) by decide)]
      simp only [cond_false]
      rw [if_neg (show ¬ a.Time > a.Bs by omega)] at hG
      left
      rw [decide_eq_false (show ¬ a.Time > a.Bs by omega), Jg (by simp; omega) (by simp; omega)]
      refine ⟨_, rfl, ⟨1, L ++ [a.Time], _, rfl, hlt, by simp [hL], hG, fun h => by omega, fun m hm => ?_⟩, by simp; omega⟩
      obtain rfl : m = 0 := by omega
      exact ⟨k, a.Time, a, hx, by rw [← hL, List.getElem?_concat_length], ha, rfl, a0, by omega⟩
    · obtain ⟨m, rfl⟩ : ∃ m, i = m + 1 := ⟨i - 1, by omega⟩
      obtain ⟨k', x, a', hox, hLx, ha', hpr, x0, x1⟩ := hp1 m rfl
      obtain ⟨hk0', hk1'⟩ := hr k' (List.mem_of_getElem? hox)
      obtain ⟨a'', ha'', w0', w1', b0, b1, b2⟩ := Ua hl hk0' hk1'
      rw [ha'] at ha''; cases ha''
      rw [hpr] at hG
      simp only at hG
      obtain ⟨r, e1, e2, e3, e4⟩ := K7 t ht w0' w1' w0 w1
      unfold rows at e1
      unfold Ij at e2
      have em : IntKind.wrap .i64 (((m + 1 : Nat) : Int) - 1) = (m : Int) := by rw [wrap64 (by omega) (by omega)]; omega
      rw [decide_eq_true (show ((m + 1 : Nat) : Int) > 0 by omega), em, Cw hLx, Cw hox]
      simp only [cond_true, Option.bind_some, ha', e1, e2]
      rw [wrap64 (by omega) (by omega)]
      generalize hz : (if x + cell t a'.Bc a.Bc > a.Time then x + cell t a'.Bc a.Bc else a.Time) = z at hG ⊢
      by_cases hlat : z > a.Bs
      · right
        rw [if_pos hlat] at hG
        rw [decide_eq_true hlat, ← hG]; rfl
      · left
        rw [if_neg hlat] at hG
        rw [decide_eq_false hlat, Jg (by simp; omega) (by simp; omega)]
        refine ⟨_, rfl, ⟨m + 2, L ++ [z], _, rfl, hlt, by simp [hL], hG, fun h => by omega, fun m' hm' => ?_⟩, by simp; omega⟩
        obtain rfl : m' = m + 1 := by omega
        refine ⟨k, z, a, hx, by rw [← hL, List.getElem?_concat_length], ha, rfl, ?_, by omega⟩
        rw [← hz]; split <;> omega
  · have : i = o.length := by omega
    right
    rw [List.drop_eq_nil_of_le hge] at hG
    rw [← hG]
    show H7 n l o false (o.length : Int) t.Cf t.Ce t.Ci t.Cn t.Cd t.Cl t.Cr t.Co t.Cm t.Ck t.Ch t.Cg t.Cb t.Cj t.Cq t.Cp (i : Int) L = _
    unfold H7
    rw [decide_eq_false (show ¬ (i : Int) < (o.length : Int) by omega)]; rfl
theorem P6 (l : List Ad) (t : Ao) : ∀ (o : List Int) (p : Option (Int × Int)) (acc : List Int), (Wc l t o p acc).2 = true → (Wc l t o p acc).1.length = acc.length + o.length
  | [], p, acc, _ => rfl
  | i :: o, p, acc, h => by
    unfold Wc at h ⊢
    cases ha : Bt l i with
    | none => rw [ha] at h; cases h
    | some a =>
      rw [ha] at h
      cases p with
      | none =>
        simp only at h ⊢
        split at h
        · cases h
        · rename_i q
          rw [if_neg q]
          rw [P6 l t o _ _ h]
          simp; omega
      | some xw =>
        obtain ⟨x, w⟩ := xw
        simp only at h ⊢
        generalize (if x + cell t w a.Bc > a.Time then x + cell t w a.Bc else a.Time) = z at h ⊢
        split at h
        · cases h
        · rename_i q
          rw [if_neg q]
          rw [P6 l t o _ _ h]
          simp; omega
end Go.Proofs.YtbfabclpcamlnaaGreatDoor
set_option linter.unusedVariables false
set_option linter.unusedSimpArgs false
namespace Go.Proofs.YtbfabclpcamlnaaGreatDoor
theorem or_eq (n : Nat) (hn : 5 < n) (d c : Int) : g95 n [d, c] = some (if d = 0 then c else d) := by
  unfold g95
  obtain ⟨k, rfl⟩ : ∃ k, n = k + 3 := ⟨n - 3, by omega⟩
  have hS : ∀ i : Int, Po (k + 3) 0 [d, c] (2 : Int) i = (if i < 2 then (Bt [d, c] i).bind fun x => if x = 0 then some (.inl (IntKind.wrap .i64 (i + 1))) else some (.inr x) else some (.inr 0)) := by
    intro i
    unfold Po
    by_cases h : i < 2
    · rw [decide_eq_true h, if_pos h, cond_true]
      congr 1
      funext x
      by_cases hx : x = 0
      · simp [hx]
      · rw [if_neg hx, bne_iff_ne.2 hx]; rfl
    · rw [decide_eq_false h, if_neg h]; rfl
  have e1 : IntKind.wrap .i64 (1 : Int) = 1 := by decide
  have e2 : IntKind.wrap .i64 (2 : Int) = 2 := by decide
  show Ba (fun y : Int => Po (k + 3) 0 [d, c] (2 : Int) y) (k + 3) 0 = _
  simp only [hS]
  by_cases hd : d = 0
  · by_cases hc : c = 0
    · simp [Ba, Bt, hd, hc, e1, e2]
    · simp [Ba, Bt, hd, hc, e1, e2]
  · simp [Ba, Bt, hd, e1]
def Nc (l : List Ad) (i j : Int) : Option Int := (Bt l i).bind fun a => (Bt l j).bind fun b => some (if IntKind.wrap .i64 (a.Time - b.Time) = 0 then sD a.Call b.Call else IntKind.wrap .i64 (a.Time - b.Time))
theorem xC (n : Nat) (hn : 5 < n) (l : List Ad) (i j : Int) : Yv n i j l = Nc l i j := by
  unfold Yv Nc
  cases ha : Bt l i with
  | none => rfl
  | some a =>
    cases hb : Bt l j with
    | none => rfl
    | some b =>
      simp only [Option.bind_some, sN, or_eq n hn]
theorem lt_iff {l : List Ad} (hl : H5 l) {i j : Int} {a b : Ad} (ha : Bt l i = some a) (hb : Bt l j = some b) (ma : a ∈ l) (mb : b ∈ l) : Le (fun x y => Nc l x y) i j = true ↔ a.Time < b.Time ∨ (a.Time = b.Time ∧ Op.bytesLess a.Call.toList b.Call.toList = true) := by
  have h1 := hl.each a ma
  have h2 := hl.each b mb
  unfold Le
  simp only [Nc, ha, hb, Option.bind_some, Option.getD_some, decide_eq_true_eq]
  rw [wrap64 (by omega) (by omega)]
  by_cases h : a.Time - b.Time = 0
  · rw [if_pos h]
    unfold sD
    by_cases q : Op.bytesLess a.Call.toList b.Call.toList = true
    · simp [q]; omega
    · rw [if_neg q]
      have : Op.bytesLess a.Call.toList b.Call.toList = false := by simpa using q
      rw [this]
      constructor
      · intro h; split at h <;> omega
      · rintro (h | ⟨-, h⟩)
        · omega
        · cases h
  · rw [if_neg h]
    constructor
    · intro h; exact .inl (by omega)
    · rintro (h | ⟨h, -⟩) <;> omega
theorem y2 {l : List Ad} (hl : H5 l) (L : List Int) (hL : ∀ x ∈ L, 0 ≤ x ∧ x < (l.length : Int)) : Px (fun x y => Nc l x y) L := by
  have at_ : ∀ x ∈ L, ∃ a, Bt l x = some a ∧ a ∈ l ∧ ∃ k : Nat, x = (k : Int) ∧ l[k]? = some a := fun x hx => by
    obtain ⟨h0, h1⟩ := hL x hx
    obtain ⟨k, rfl⟩ : ∃ k : Nat, x = (k : Int) := ⟨x.toNat, by omega⟩
    have : k < l.length := by omega
    exact ⟨l[k], by rw [Rs]; exact List.getElem?_eq_getElem this, List.getElem_mem _, k, rfl, List.getElem?_eq_getElem this⟩
  refine ⟨fun x hx y hy => ?_, fun x hx y hy => ?_, fun x hx y hy h => ?_, fun x hx y hy z hz h1 h2 => ?_⟩
  · obtain ⟨a, ha, -⟩ := at_ x hx
    obtain ⟨b, hb, -⟩ := at_ y hy
    simp only [Nc, ha, hb, Option.bind_some]
    exact ⟨_, rfl⟩
  · obtain ⟨a, ha, ma, i, rfl, ia⟩ := at_ x hx
    obtain ⟨b, hb, mb, j, rfl, jb⟩ := at_ y hy
    rw [lt_iff hl ha hb ma mb, lt_iff hl hb ha mb ma]
    rcases Int.lt_trichotomy a.Time b.Time with h | h | h
    · exact .inl (.inl h)
    · rcases Rm a.Call.toList b.Call.toList with q | q | q
      · exact .inl (.inr ⟨h, q⟩)
      · exact .inr (.inl (.inr ⟨h.symm, q⟩))
      · refine .inr (.inr ?_)
        rcases Nat.lt_trichotomy i j with e | e | e
        · exact absurd q (hl.names i j a b e ia jb)
        · rw [e]
        · exact absurd q.symm (hl.names j i b a e jb ia)
    · exact .inr (.inl (.inl h))
  · obtain ⟨a, ha, ma, -⟩ := at_ x hx
    obtain ⟨b, hb, mb, -⟩ := at_ y hy
    rw [lt_iff hl ha hb ma mb] at h
    rw [Bool.eq_false_iff, Ne, lt_iff hl hb ha mb ma]
    rcases h with h | ⟨h, q⟩
    · rintro (k | ⟨k, -⟩) <;> omega
    · rintro (k | ⟨k, p⟩)
      · omega
      · rw [Rh _ _ q] at p; cases p
  · obtain ⟨a, ha, ma, -⟩ := at_ x hx
    obtain ⟨b, hb, mb, -⟩ := at_ y hy
    obtain ⟨c, hc, mc, -⟩ := at_ z hz
    rw [lt_iff hl ha hb ma mb] at h1
    rw [lt_iff hl hb hc mb mc] at h2
    rw [lt_iff hl ha hc ma mc]
    rcases h1 with h | ⟨h, q⟩
    · rcases h2 with k | ⟨k, p⟩
      · exact .inl (by omega)
      · exact .inl (by omega)
    · rcases h2 with k | ⟨k, p⟩
      · exact .inl (by omega)
      · exact .inr ⟨by omega, Yc _ _ _ q p⟩
def Gk (k : Nat) : List Int := (List.range k).map fun (i : Nat) => (i : Int)
theorem nat_eq (n : Nat) (hn : 100 < n) (l : List Ad) (hl8 : l.length ≤ 8) (h0 : Wk n l = some 0) : gT n l = (Ia (fun x y => Nc l x y) (Gk l.length)).map fun x => (x, 0) := by
  unfold gT
  rw [h0]
  simp only [Option.bind_some, bne_self_eq_false, cond_false]
  have key : ∀ (m i : Nat), i ≤ l.length → l.length - i < m → Ba (fun y : Int × List Int => Lz n 0 (l.length : Int) l y.1 y.2) m ((i : Int), Gk i) = (Ia (fun x y => Nc l x y) (Gk l.length)).map fun x => (x, 0) := by
    intro m
    induction m with
    | zero => intro i _ h; omega
    | succ m ih =>
      intro i hi hm
      unfold Ba
      rcases Nat.lt_or_ge i l.length with hlt | hge
      · have hS : Lz n 0 (l.length : Int) l (i : Int) (Gk i) = some (.inl (((i + 1 : Nat) : Int), Gk (i + 1))) := by
          unfold Lz
          rw [decide_eq_true (show (i : Int) < (l.length : Int) by omega), cond_true, Jg (by simp [Gk]; omega) (by simp [Gk]; omega), wS (by omega)]
          simp [Gk, List.range_succ]
        simp only [hS]
        exact ih (i + 1) hlt (by omega)
      · obtain rfl : i = l.length := by omega
        have hS : Lz n 0 (l.length : Int) l (l.length : Int) (Gk l.length) = (Ia (fun x y => Nc l x y) (Gk l.length)).map fun x => .inr (x, 0) := by
          unfold Lz
          rw [decide_eq_false (show ¬ (l.length : Int) < (l.length : Int) by omega), cond_false]
          have : (fun x y => Yv n x y l) = fun x y => Nc l x y := by
            funext x y; exact xC n (by omega) l x y
          rw [this]
          cases Ia (fun x y => Nc l x y) (Gk l.length) <;> rfl
        simp only [hS]
        cases Ia (fun x y => Nc l x y) (Gk l.length) <;> rfl
  have := key n 0 (Nat.zero_le _) (by omega)
  exact this
theorem vJ (n : Nat) (hn : 100 < n) (l : List Ad) (hl : H5 l) (h0 : Wk n l = some 0) : ∃ nat, gT n l = some (nat, 0) ∧ nat.length = l.length := by
  have hlen := hl.len
  have ho := y2 hl (Gk l.length) (fun x hx => by
    unfold Gk at hx
    obtain ⟨i, hi, rfl⟩ := List.mem_map.1 hx
    have := List.mem_range.1 hi
    omega)
  have e : Ia (fun x y => Nc l x y) (Gk l.length) = some (Oa (Le fun x y => Nc l x y) (Gk l.length)) := by
    unfold Ia
    rw [Td.2 ho, decide_eq_true (by simp [Gk]; omega)]; rfl
  refine ⟨_, by rw [nat_eq n hn l hlen h0, e]; rfl, ?_⟩
  rw [(J2 e).1.length_eq]
  simp [Gk]
def pY (nat : List Int) : Int → List Int → Int → Int
  | _, [], v => v
  | k, i :: o, v => pY nat (k + 1) o (if (IntKind.wrap .i64 (0 - (IntKind.wrap .i64 (k - Em (fun x => i == x) nat)))) > (if (IntKind.wrap .i64 (k - Em (fun x => i == x) nat)) > v then (IntKind.wrap .i64 (k - Em (fun x => i == x) nat)) else v) then (IntKind.wrap .i64 (0 - (IntKind.wrap .i64 (k - Em (fun x => i == x) nat)))) else (if (IntKind.wrap .i64 (k - Em (fun x => i == x) nat)) > v then (IntKind.wrap .i64 (k - Em (fun x => i == x) nat)) else v))
theorem Xa (n : Nat) (hn : 100 < n) (nat o : List Int) (h1 : nat.length ≤ 8) (h2 : o.length ≤ 8) : g43 n nat o = some (pY nat 0 o 0) := by
  unfold g43
  generalize hR : pY nat 0 o 0 = R
  refine G4 (fun y => ∃ (i : Nat) (v : Int), y = (v, (i : Int)) ∧ i ≤ o.length ∧ pY nat i (o.drop i) v = R) _ (fun y => o.length - y.2.toNat) ?_ n _ ⟨0, 0, rfl, Nat.zero_le _, hR⟩ (by simp; omega)
  rintro _ ⟨i, v, rfl, hi, hG⟩
  show (∃ y, Pp n nat 0 o (o.length : Int) v (i : Int) = some (.inl y) ∧ _) ∨ Pp n nat 0 o (o.length : Int) v (i : Int) = _
  unfold Pp
  rcases Nat.lt_or_ge i o.length with hlt | hge
  · have hx : o[i]? = some o[i] := List.getElem?_eq_getElem hlt
    rw [List.drop_eq_getElem_cons hlt] at hG
    generalize o[i] = k at hx hG
    left
    rw [decide_eq_true (show (i : Int) < (o.length : Int) by omega), Cw hx, wS (by omega)]
    simp only [cond_true, Option.bind_some, Xz n nat k (by omega) (by omega)]
    exact ⟨_, rfl, ⟨i + 1, _, rfl, hlt, hG⟩, by simp; omega⟩
  · have : i = o.length := by omega
    rw [List.drop_eq_nil_of_le hge] at hG
    right
    rw [decide_eq_false (show ¬ (i : Int) < (o.length : Int) by omega), ← hG]; rfl
def Ro (N : Nat) : Nat → List Int → List (List Int)
  | 0, o => [o]
  | k + 1, o => (List.range N).flatMap fun (i : Nat) => if ((i : Nat) : Int) ∈ o then [] else Ro N k (o ++ [((i : Nat) : Int)])
theorem O7 {α β σ : Type} (vis : σ → β → Option σ) (f : α → List β) : ∀ (L : List α) (s : σ), (L.flatMap f).foldlM vis s = L.foldlM (fun s i => (f i).foldlM vis s) s
  | [], s => rfl
  | a :: L, s => by
    rw [List.flatMap_cons, List.foldlM_append, List.foldlM_cons]
    congr 1
    funext s
    exact O7 vis f L s
theorem dX {σ : Type} (N : Nat) (vis : σ → List Int → Option σ) : ∀ (k : Nat) (o : List Int) (s : σ), Wp N vis k o s = (Ro N k o).foldlM vis s
  | 0, o, s => by
    unfold Wp Ro
    simp
  | k + 1, o, s => by
    unfold Wp Ro
    rw [O7]
    congr 1
    funext s i
    by_cases h : (i : Int) ∈ o
    · rw [if_pos h, if_pos h]; rfl
    · rw [if_neg h, if_neg h]; exact dX N vis k _ s
theorem V9 (N : Nat) : ∀ (k : Nat) (o p : List Int), (∀ x ∈ o, 0 ≤ x ∧ x < (N : Int)) → o.Nodup → o.length + k = N → p ∈ Ro N k o → sJ N p
  | 0, o, p, h1, h2, h3, hp => by
    unfold Ro at hp
    simp only [List.mem_singleton] at hp
    subst hp
    exact ⟨by omega, h1, h2⟩
  | k + 1, o, p, h1, h2, h3, hp => by
    unfold Ro at hp
    obtain ⟨i, hi, hp⟩ := List.mem_flatMap.1 hp
    have hi := List.mem_range.1 hi
    split at hp
    · cases hp
    · rename_i hn
      refine V9 N k _ p (fun x hx => ?_) ?_ (by simp; omega) hp
      · rcases List.mem_append.1 hx with h | h
        · exact h1 x h
        · simp at h; omega
      · rw [List.nodup_append]
        exact ⟨h2, by simp, fun a ha b hb e => by simp at hb; subst e; subst hb; exact hn ha⟩
end Go.Proofs.YtbfabclpcamlnaaGreatDoor
set_option linter.unusedVariables false
set_option linter.unusedSimpArgs false
namespace Go.Proofs.YtbfabclpcamlnaaGreatDoor
def Nl (l : List Ad) (t : Ao) (nat : List Int) (most : Int) (o : List Int) : Option (List Int × Int × Int) :=
  if (Wc l t o none []).2 = false then none else if pY nat 0 o 0 > most then none else
    (Wc l t o none []).1.getLast?.bind fun e => (P2 l o (Wc l t o none []).1 0).bind fun z => some ((Wc l t o none []).1, e, z)
def Ku (c : List Int → Option (List Int × Int × Int)) (s : Lv) (o : List Int) : Lv := match c o with
  | none => s
  | some (x, e, z) => match s with
    | none => some (o, x, e, z)
    | some (b, a, e0, z0) => if e < e0 ∨ (e = e0 ∧ z < z0) then some (o, x, e, z) else some (b, a, e0, z0)
theorem Y6 {l : List Ad} (hl : H5 l) : ∀ (o x : List Int) (s : Int), x.length = o.length → (∀ k ∈ o, 0 ≤ k ∧ k < (l.length : Int)) → ∃ z, P2 l o x s = some z
  | [], x, s, _, _ => ⟨s, by unfold P2; rfl⟩
  | k :: o, [], s, h, _ => by simp at h
  | k :: o, y :: x, s, h, hr => by
    obtain ⟨a, ha, -⟩ := Ua hl (hr k (by simp)).1 (hr k (by simp)).2
    unfold P2
    rw [ha]
    exact Y6 hl o x _ (by simpa using h) (fun q hq => hr q (by simp [hq]))
theorem Vt {x : List Int} (h : x ≠ []) : ∃ e, x.getLast? = some e := by
  rw [List.getLast?_eq_getElem?]
  cases x with
  | nil => exact absurd rfl h
  | cons a x => exact ⟨_, List.getElem?_eq_getElem (by simp)⟩
theorem u7 (n : Nat) (hn : 100 < n) {l : List Ad} (hl : H5 l) {t : Ao} (ht : G1 t) {nat : List Int} (hnat : nat.length = l.length) (most : Int) (hne : l ≠ []) {o : List Int} (ho : sJ l.length o) (s : Lv) :
    jQ n l t nat most s o = some (Ku (Nl l t nat most) s o) := by
  have hlen := hl.len
  have hol := ho.1
  have hpos : 0 < l.length := List.length_pos_iff.2 hne
  unfold jQ Ku Nl
  rw [nM n hn l hl o (by omega) ho.2.1 t ht]
  simp only [Option.bind_some]
  have hlt := P6 l t o none []
  generalize Wc l t o none [] = r at hlt ⊢
  obtain ⟨x, q⟩ := r
  cases q with
  | false => rfl
  | true =>
    have hxl : x.length = o.length := by simpa using hlt rfl
    simp only [Bool.not_true, cond_false, Bool.true_eq_false, if_false]
    rw [Xa n hn nat o (by omega) (by omega)]
    simp only [Option.bind_some]
    by_cases hd : pY nat 0 o 0 > most
    · rw [decide_eq_true hd, cond_true, if_pos hd]
    · rw [decide_eq_false hd, cond_false, if_neg hd]
      obtain ⟨e, he⟩ := Vt (x := x) (by intro h; rw [h] at hxl; simp at hxl; omega)
      obtain ⟨z, hz⟩ := Y6 hl o x 0 hxl ho.2.1
      rw [he, hz]
      simp only [Option.bind_some]
      cases s with
      | none => rfl
      | some s =>
        obtain ⟨b, a, e0, z0⟩ := s
        simp only
        split <;> rfl
theorem Rt {α σ : Type} {f : σ → α → Option σ} {g : σ → α → σ} : ∀ {L : List α} {s : σ}, (∀ x ∈ L, ∀ s, f s x = some (g s x)) → L.foldlM f s = some (L.foldl g s)
  | [], s, _ => rfl
  | x :: L, s, h => by
    rw [List.foldlM_cons, h x (by simp), List.foldl_cons]
    exact Rt (fun y hy => h y (by simp [hy]))
theorem nY (n : Nat) (hn : 100 < n) {l : List Ad} (hl : H5 l) {t : Ao} (ht : G1 t) {nat : List Int} (hnat : nat.length = l.length) {most : Int} (m0 : 0 ≤ most) (m1 : most ≤ 8) (hne : l ≠ []) (h1 : gT n l = some (nat, 0)) (h2 : Zi n t = some 0) :
    g6 n l t most = some (match (Ro l.length l.length []).foldl (Ku (Nl l t nat most)) none with | none => ([], [], 8) | some (o, x, _, _) => (o, x, 0)) := by
  have hlen := hl.len
  have hpos : 0 < l.length := List.length_pos_iff.2 hne
  unfold g6
  rw [h1]
  simp only [Option.bind_some, bne_self_eq_false, cond_false]
  rw [h2]
  simp only [Option.bind_some, bne_self_eq_false, cond_false]
  rw [decide_eq_false (show ¬ most < 0 by omega), decide_eq_false (show ¬ most > 8 by omega), show (l.length == 0) = false from beq_eq_false_iff_ne.2 (by omega), cond_false, cond_false, cond_false, if_pos hlen, dX,
    Rt (g := Ku (Nl l t nat most)) (fun o ho s => u7 n hn hl ht hnat most hne (V9 l.length l.length [] o (fun x hx => by simp at hx) (by simp) (by simp) ho) s)]
  simp only [Option.bind_some]
  cases (Ro l.length l.length []).foldl (Ku (Nl l t nat most)) none with
  | none => rfl
  | some s => rfl
theorem eR (c : List Int → Option (List Int × Int × Int)) : ∀ (L : List (List Int)) (s : Lv),
    (∀ b a e z, s = some (b, a, e, z) → ∃ b' a' e' z', L.foldl (Ku c) s = some (b', a', e', z') ∧ e' ≤ e) ∧
    (∀ o ∈ L, ∀ x e z, c o = some (x, e, z) → ∃ b' a' e' z', L.foldl (Ku c) s = some (b', a', e', z') ∧ e' ≤ e) ∧
    (∀ b a e z, L.foldl (Ku c) s = some (b, a, e, z) → s = some (b, a, e, z) ∨ (b ∈ L ∧ c b = some (a, e, z)))
  | [], s => ⟨fun b a e z h => ⟨b, a, e, z, h, Int.le_refl _⟩, fun o ho => by simp at ho, fun b a e z h => .inl h⟩
  | p :: L, s => by
    obtain ⟨h1, h2, h3⟩ := eR c L (Ku c s p)
    have key : ∀ b a e z, s = some (b, a, e, z) → ∃ b' a' e' z', Ku c s p = some (b', a', e', z') ∧ e' ≤ e := by
      rintro b a e z rfl
      unfold Ku
      cases c p with
      | none => exact ⟨b, a, e, z, rfl, Int.le_refl _⟩
      | some q =>
        obtain ⟨x, e1, z1⟩ := q
        simp only
        split
        · rename_i h; exact ⟨p, x, e1, z1, rfl, by omega⟩
        · exact ⟨b, a, e, z, rfl, Int.le_refl _⟩
    have keyp : ∀ x e z, c p = some (x, e, z) → ∃ b' a' e' z', Ku c s p = some (b', a', e', z') ∧ e' ≤ e := by
      intro x e z h
      unfold Ku
      rw [h]
      cases s with
      | none => exact ⟨p, x, e, z, rfl, Int.le_refl _⟩
      | some q =>
        obtain ⟨b, a, e1, z1⟩ := q
        simp only
        split
        · exact ⟨p, x, e, z, rfl, Int.le_refl _⟩
        · rename_i h; exact ⟨b, a, e1, z1, rfl, by omega⟩
    have go : ∀ {e : Int}, (∃ b' a' e' z', Ku c s p = some (b', a', e', z') ∧ e' ≤ e) → ∃ b' a' e' z', (p :: L).foldl (Ku c) s = some (b', a', e', z') ∧ e' ≤ e := by
      rintro e ⟨b', a', e', z', q1, q2⟩
      obtain ⟨b2, a2, e2, z2, q3, q4⟩ := h1 b' a' e' z' q1
      exact ⟨b2, a2, e2, z2, q3, by omega⟩
    refine ⟨fun b a e z h => go (key b a e z h), fun o ho x e z h => ?_, fun b a e z h => ?_⟩
    · rcases List.mem_cons.1 ho with rfl | ho
      · exact go (keyp x e z h)
      · exact h2 o ho x e z h
    · rcases h3 b a e z h with q | ⟨q1, q2⟩
      · unfold Ku at q
        cases hc : c p with
        | none => rw [hc] at q; exact .inl q
        | some r =>
          obtain ⟨x, e1, z1⟩ := r
          rw [hc] at q
          cases s with
          | none =>
            simp only [Option.some.injEq, Prod.mk.injEq] at q
            obtain ⟨rfl, rfl, rfl, rfl⟩ := q
            exact .inr ⟨by simp, hc⟩
          | some r2 =>
            obtain ⟨b2, a2, e2, z2⟩ := r2
            simp only at q
            split at q
            · simp only [Option.some.injEq, Prod.mk.injEq] at q
              obtain ⟨rfl, rfl, rfl, rfl⟩ := q
              exact .inr ⟨by simp, hc⟩
            · exact .inl q
      · exact .inr ⟨by simp [q1], q2⟩
theorem Zu {l : List Ad} {t : Ao} {nat : List Int} {most : Int} {o x : List Int} {e z : Int} (h : Nl l t nat most o = some (x, e, z)) : Wc l t o none [] = (x, true) ∧ pY nat 0 o 0 ≤ most ∧ x.getLast? = some e ∧ x.length = o.length ∧ P2 l o x 0 = some z := by
  unfold Nl at h
  have hlt := P6 l t o none []
  generalize Wc l t o none [] = r at h hlt
  obtain ⟨y, q⟩ := r
  cases q with
  | false => simp at h
  | true =>
    simp only [Bool.true_eq_false, if_false] at h
    split at h
    · cases h
    · rename_i hd
      obtain ⟨e', he, h⟩ := Option.bind_eq_some_iff.1 h
      obtain ⟨z', hz, h⟩ := Option.bind_eq_some_iff.1 h
      simp only [Option.some.injEq, Prod.mk.injEq] at h
      obtain ⟨rfl, rfl, rfl⟩ := h
      exact ⟨rfl, by omega, he, by simpa using hlt rfl, hz⟩
end Go.Proofs.YtbfabclpcamlnaaGreatDoor
set_option linter.unusedVariables false
set_option linter.unusedSimpArgs false
namespace Go.Proofs.YtbfabclpcamlnaaGreatDoor
theorem X3 {n : Nat} {l : List Ad} {t : Ao} {z : Int} (hz : z ≠ 0) (h : (Wk n l = some z) ∨ (∃ nat, gT n l = some (nat, 0)) ∧ Zi n t = some z) (most : Int) : g6 n l t most = some ([], [], z) := by
  unfold g6
  rcases h with h | ⟨⟨nat, h1⟩, h⟩
  · have : gT n l = some ([], z) := by
      unfold gT
      rw [h]
      simp only [Option.bind_some]
      rw [bne_iff_ne.2 hz]; rfl
    rw [this]
    simp only [Option.bind_some]
    rw [bne_iff_ne.2 hz]; rfl
  · rw [h1]
    simp only [Option.bind_some, bne_self_eq_false, cond_false]
    rw [h]
    simp only [Option.bind_some]
    rw [bne_iff_ne.2 hz]; rfl
end Go.Proofs.YtbfabclpcamlnaaGreatDoor
set_option linter.unusedVariables false
set_option linter.unusedSimpArgs false
set_option maxHeartbeats 1000000
namespace Go.Proofs.YtbfabclpcamlnaaGreatDoor
def y7 (l : List Ad) (t : Ao) : Option (Int × Int) → List Int → List Int → Prop
  | _, [], [] => True
  | p, k :: o, y :: ys => ∃ a, Bt l k = some a ∧ (∀ x w, p = some (x, w) → x + cell t w a.Bc ≤ y) ∧ a.Time ≤ y ∧ y ≤ a.Bs ∧ y7 l t (some (y, a.Bc)) o ys
  | _, _, _ => False
theorem aK (l : List Ad) (t : Ao) : ∀ (o : List Int) (p : Option (Int × Int)) (acc x : List Int), Wc l t o p acc = (x, true) → ∃ ys, x = acc ++ ys ∧ y7 l t p o ys
  | [], p, acc, x, h => by
    unfold Wc at h
    cases h
    exact ⟨[], by rw [List.append_nil], trivial⟩
  | i :: o, p, acc, x, h => by
    unfold Wc at h
    cases hg : Bt l i with
    | none => rw [hg] at h; cases h
    | some a =>
      rw [hg] at h
      cases p with
      | none =>
        dsimp only at h
        by_cases c : a.Time > a.Bs
        · rw [if_pos c] at h; cases h
        · rw [if_neg c] at h
          obtain ⟨ys, h1, h2⟩ := aK l t o _ _ x h
          exact ⟨a.Time :: ys, by rw [h1, List.append_assoc]; rfl, a, hg, (fun _ _ e => by cases e), Int.le_refl _, by omega, h2⟩
      | some q =>
        obtain ⟨x0, w⟩ := q
        dsimp only at h
        generalize hy : (if x0 + cell t w a.Bc > a.Time then x0 + cell t w a.Bc else a.Time) = y at h
        have hy1 : x0 + cell t w a.Bc ≤ y ∧ a.Time ≤ y := by
          rw [← hy]; split <;> omega
        by_cases c : y > a.Bs
        · rw [if_pos c] at h; cases h
        · rw [if_neg c] at h
          obtain ⟨ys, h1, h2⟩ := aK l t o _ _ x h
          exact ⟨y :: ys, by rw [h1, List.append_assoc]; rfl, a, hg, (fun _ _ e => by cases e; exact hy1.1), hy1.2, by omega, h2⟩
def Nx (l : List Ad) (k : Int) : Int := ((Bt l k).map (·.Bc)).getD 0
def Wv (l : List Ad) : List Int → List Int → List Ab
  | k :: o, y :: ys => ⟨y, Nx l k, false, 0⟩ :: Wv l o ys
  | _, _ => []
theorem get_mem {α : Type} {l : List α} {k : Int} {a : α} (h : Bt l k = some a) : a ∈ l := by
  unfold Bt at h
  split at h
  · exact List.mem_of_getElem? h
  · cases h
theorem Qk {l : List Ad} (hl : H5 l) {t : Ao} : ∀ (o ys : List Int) (p : Option (Int × Int)), y7 l t p o ys → ∀ m ∈ Wv l o ys, (0 ≤ m.Time ∧ m.Time ≤ 200000) ∧ (0 ≤ m.Bc ∧ m.Bc ≤ 3) ∧ m.Bd = false ∧ m.End = 0
  | [], [], p, h, m, hm => by cases hm
  | [], y :: ys, p, h, m, hm => by cases hm
  | k :: o, [], p, h, m, hm => by cases hm
  | k :: o, y :: ys, p, h, m, hm => by
    obtain ⟨a, ha, h1, h2, h3, h4⟩ := h
    have ba := hl.each a (get_mem ha)
    rcases List.mem_cons.1 hm with rfl | hm
    · have hw : Nx l k = a.Bc := by unfold Nx; rw [ha]; rfl
      exact ⟨⟨by show 0 ≤ y; omega, by show y ≤ 200000; omega⟩, ⟨by show 0 ≤ Nx l k; omega, by show Nx l k ≤ 3; omega⟩, rfl, rfl⟩
    · exact Qk hl o ys _ h4 m hm
theorem bY {l : List Ad} (hl : H5 l) {t : Ao} (hT : qF t) : ∀ (o ys : List Int) (x w : Int), 0 ≤ w → w ≤ 3 → y7 l t (some (x, w)) o ys → ∀ m ∈ Wv l o ys, x + cell t w m.Bc ≤ m.Time
  | [], [], x, w, _, _, h, m, hm => by cases hm
  | [], y :: ys, x, w, _, _, h, m, hm => by cases hm
  | k :: o, [], x, w, _, _, h, m, hm => by cases hm
  | k :: o, y :: ys, x, w, w0, w1, h, m, hm => by
    have hm0 := (Qk hl (k :: o) (y :: ys) _ h m hm).2.1
    obtain ⟨a, ha, h1, h2, h3, h4⟩ := h
    have ba := hl.each a (get_mem ha)
    have hw : Nx l k = a.Bc := by unfold Nx; rw [ha]; rfl
    have h1 := h1 x w rfl
    rcases List.mem_cons.1 hm with rfl | hm
    · show x + cell t w (Nx l k) ≤ y
      rw [hw]; exact h1
    · have q := bY hl hT o ys y a.Bc ba.1 ba.2.1 h4 m hm
      have tr := hT w.toNat a.Bc.toNat m.Bc.toNat (by omega) (by omega) (by omega)
      rw [Int.toNat_of_nonneg w0, Int.toNat_of_nonneg ba.1, Int.toNat_of_nonneg hm0.1] at tr
      omega
theorem pU {l : List Ad} (hl : H5 l) {t : Ao} (hT : qF t) : ∀ (o ys : List Int) (p : Option (Int × Int)), y7 l t p o ys → (Wv l o ys).Pairwise fun a b => a.Time + cell t a.Bc b.Bc ≤ b.Time
  | [], [], p, h => .nil
  | [], y :: ys, p, h => .nil
  | k :: o, [], p, h => .nil
  | k :: o, y :: ys, p, h => by
    obtain ⟨a, ha, h1, h2, h3, h4⟩ := h
    have ba := hl.each a (get_mem ha)
    have hw : Nx l k = a.Bc := by unfold Nx; rw [ha]; rfl
    refine .cons (fun m hm => ?_) (pU hl hT o ys _ h4)
    show y + cell t (Nx l k) m.Bc ≤ m.Time
    rw [hw]
    exact bY hl hT o ys y a.Bc ba.1 ba.2.1 h4 m hm
theorem fM (t : Ao) (a b : Ab) (ha : a.Bd = false) (hb : b.Bd = false) : Io t a b = cell t a.Bc b.Bc := by
  unfold Io jW cell
  rw [ha, hb]
  show (((Bt (rows t) a.Bc).bind fun x113 => (Bt (Ij x113) b.Bc).bind fun x114 => some x114).getD 0) = _
  cases Bt (rows t) a.Bc with
  | none => rfl
  | some r =>
    simp only [Option.bind_some]
    cases Bt (Ij r) b.Bc <;> rfl
theorem j0 (n : Nat) (hn : 100 < n) {l : List Ad} (hl : H5 l) {t : Ao} (h0 : Zi n t = some 0) {s : List Ah} (hs : Ff s) (hd : ∀ u, 0 ≤ u → u ≤ 200000 → Gj u s = (0, true)) (o ys : List Int) (p : Option (Int × Int)) (h : y7 l t p o ys) : E6 n (Wv l o ys) s t := by
  obtain ⟨ht, hT⟩ := qB n hn t h0
  have hm := Qk hl o ys p h
  have hp := pU hl hT o ys p h
  refine ⟨hs, ht, h0, fun x hx => ?_, ?_, ?_⟩
  · obtain ⟨⟨a1, a2⟩, ⟨a3, a4⟩, a5, a6⟩ := hm x hx
    exact ⟨⟨a1, a2, a3, a4, .inl a6⟩, by rw [a6]; exact hd x.Time a1 a2⟩
  · refine List.Pairwise.imp_of_mem ?_ hp
    intro a b ha hb hab
    obtain ⟨-, ⟨a3, a4⟩, -⟩ := hm a ha
    obtain ⟨-, ⟨b3, b4⟩, -⟩ := hm b hb
    obtain ⟨-, -, -, c1, -⟩ := K7 t ht a3 a4 b3 b4
    omega
  · refine List.Pairwise.imp_of_mem ?_ hp
    intro a b ha hb hab
    obtain ⟨-, -, a5, -⟩ := hm a ha
    obtain ⟨-, -, b5, -⟩ := hm b hb
    rw [fM t a b a5 b5]
    omega
end Go.Proofs.YtbfabclpcamlnaaGreatDoor
set_option linter.unusedVariables false
set_option linter.unusedSimpArgs false
namespace Go.Proofs.YtbfabclpcamlnaaGreatDoor
theorem iD {α : Type} (l : List α) (i : Nat) (h : i ≤ l.length) : Eb l none (some (i : Int)) = some (l.take i) := by
  simp only [Eb, Option.getD_none, Option.getD_some]
  rw [if_pos ⟨Int.le_refl _, by omega, by omega⟩]
  simp
theorem lX {α ρ : Type} (p : α → Bool) (l : List α) {S : Int × Int × List α → Option ((Int × Int × List α) ⊕ ρ)} (r : ρ)
    (hs : ∀ (i j : Nat) (L : List α) (x : α), L.length = l.length → i < j → L[j]? = some x → S ((i : Int), (j : Int), L) = some (.inl (if p x then ((i : Int), ((j + 1 : Nat) : Int), L) else (((i + 1 : Nat) : Int), ((j + 1 : Nat) : Int), L.set i x))))
    (h0 : ∀ (i : Nat) (L : List α), L.length = l.length → i < l.length → L.take i = l.filter (fun x => !p x) → S ((i : Int), (l.length : Int), L) = some (.inr r)) (n : Nat) (hn : l.length < n) (i0 : Nat) (hi0 : i0 < l.length) (hp0 : ∀ x, l[i0]? = some x → p x = true) (hlt : ∀ (j : Nat) (x : α), j < i0 → l[j]? = some x → p x = false) :
    Ba S n ((i0 : Int), ((i0 + 1 : Nat) : Int), l) = some r := by
  have hf0 : l.take i0 = (l.take (i0 + 1)).filter (fun x => !p x) := by
    rw [List.take_succ_eq_append_getElem hi0, List.filter_append, List.filter_cons_of_neg (by simp [hp0 _ (List.getElem?_eq_getElem hi0)]), List.filter_nil, List.append_nil]
    symm
    rw [List.filter_eq_self]
    intro x hx
    rw [List.mem_take_iff_getElem] at hx
    obtain ⟨j, hj, rfl⟩ := hx
    rw [hlt j _ (by omega) (List.getElem?_eq_getElem (by omega))]; rfl
  refine G4 (fun y => ∃ (i j : Nat) (L : List α), y = ((i : Int), (j : Int), L) ∧ i < j ∧ j ≤ l.length ∧ L.length = l.length ∧ L.take i = (l.take j).filter (fun x => !p x) ∧ L.drop j = l.drop j) _ (fun y => l.length - y.2.1.toNat) ?_ n _ ⟨i0, i0 + 1, l, rfl, by omega, hi0, rfl, hf0, rfl⟩ (by simp; omega)
  rintro _ ⟨i, j, L, rfl, hij, hj, hL, ht, hd⟩
  rcases Nat.lt_or_ge j l.length with hjl | hge
  · have hx : l[j]? = some l[j] := List.getElem?_eq_getElem hjl
    have htk := List.take_succ_eq_append_getElem hjl
    generalize l[j] = x at hx htk
    have hLx : L[j]? = some x := by
      have := congrArg (fun q => q[0]?) hd
      simpa [List.getElem?_drop, hx] using this
    have hS := hs i j L x hL hij hLx
    have hdd : L.drop (j + 1) = l.drop (j + 1) := by
      have := congrArg (List.drop 1) hd
      simpa [List.drop_drop] using this
    cases hp : p x with
    | true =>
      rw [hp] at hS
      refine .inl ⟨_, hS, ⟨i, j + 1, L, rfl, by omega, hjl, hL, ?_, hdd⟩, by simp; omega⟩
      rw [htk, List.filter_append, List.filter_cons_of_neg (by simp [hp]), List.filter_nil, List.append_nil, ht]
    | false =>
      rw [hp] at hS
      refine .inl ⟨_, hS, ⟨i + 1, j + 1, L.set i x, rfl, by omega, hjl, by simpa using hL, ?_, ?_⟩, by simp; omega⟩
      · rw [htk, List.filter_append, List.filter_cons_of_pos (by simp [hp]), List.filter_nil, ← ht]
        have hi' : i < (L.set i x).length := by simp; omega
        rw [List.take_succ_eq_append_getElem hi', List.getElem_set_self, List.take_set_of_le (Nat.le_refl _)]
      · rw [List.drop_set_of_lt (by omega)]; exact hdd
  · have : j = l.length := by omega
    subst this
    rw [List.take_length] at ht
    exact .inr (h0 i L hL hij ht)
def Ov (x : Ab) : Bool := x.Bd
theorem rP (n : Nat) (l : List Ab) (hl : l.length ≤ 1000) (hn : l.length < n) : g10 n l = some (l.filter fun d => !d.Bd) := by
  unfold g10
  have e : Tp n l = some (Em (Ov) l) := by
    unfold Tp
    exact Jk (Ov) l (by omega) (S := fun y : Int => Gy n l 0 (l.length : Int) y) (fun i x' hx => by
      have := Dn hx
      unfold Gy g12
      rw [decide_eq_true (show (i : Int) < _ by omega), Cw hx, wS (by omega)]
      simp only [cond_true, Option.bind_some, Ov]
      by_cases h : x'.Bd = true <;> simp [h]) (by
      unfold Gy
      simp) n hn
  rw [e]
  simp only [Option.bind_some]
  have hge := Qb (Ov) l
  by_cases h : Em (Ov) l < 0
  · rw [show (Em (Ov) l == -1) = true from beq_iff_eq.2 (by omega), cond_true]
    congr 1
    symm
    rw [List.filter_eq_self]
    intro x hx
    have := (Jx _ _).1 h x hx
    unfold Ov at this
    rw [this]; rfl
  · obtain ⟨x0, k1, k2, k3⟩ := Qf (Ov) l (by omega)
    rw [show (Em (Ov) l == -1) = false from beq_eq_false_iff_ne.2 (by omega), cond_false]
    generalize hi : (Em (Ov) l).toNat = i at k1 k3
    have hi' : Em (Ov) l = (i : Int) := by omega
    have hlt := Dn k1
    rw [hi', wS (by omega)]
    refine lX (Ov) l _ (fun i j L x hL hij hx => ?_) (fun i L hL hil ht => ?_) n hn i hlt (fun x hx => by rw [k1] at hx; cases hx; exact k2) (fun j x hj hx => k3 j hj x hx)
    · have := Dn hx
      show Jc n (i : Int) (j : Int) L = _
      unfold Jc g12
      rw [decide_eq_true (show (j : Int) < (L.length : Int) by omega), Cw hx]
      simp only [cond_true, Option.bind_some, wS (show j < 9223372036854775807 by omega), wS (show i < 9223372036854775807 by omega), Int.toNat_natCast]
      unfold Ov
      have hy : L[i]? = some (L[i]'(by omega)) := List.getElem?_eq_getElem (by omega)
      cases hq : x.Bd with
      | true => rfl
      | false => simp only [Bool.not_false, cond_true, Cw hy, Option.bind_some]; rfl
    · show Jc n (i : Int) (l.length : Int) L = _
      unfold Jc
      rw [decide_eq_false (show ¬ (l.length : Int) < (L.length : Int) by omega), cond_false]
      have s1 : Eb L (some (i : Int)) none = some (L.drop i) := by
        simp only [Eb, Option.getD_none, Option.getD_some]
        rw [if_pos ⟨by omega, by omega, Int.le_refl _⟩, Int.toNat_natCast, List.take_of_length_le]
        rw [List.length_drop]; omega
      rw [s1]
      simp only [Option.bind_some]
      have hne : neO (L.drop i) = some () := by
        cases hq : L.drop i with
        | nil => rw [List.drop_eq_nil_iff] at hq; omega
        | cons a r => rfl
      rw [hne]
      simp only [Option.bind_some, Int.toNat_natCast]
      have hcl : ∀ z : Ab, (Ls z L (L.drop i) i).take i = L.take i := by
        intro z
        unfold Ls
        rw [List.append_assoc, List.take_append_of_le_length (by simp; omega), List.take_take, Nat.min_self]
      rw [iD _ i (by unfold Ls; simp; omega), hcl, ht]
      rfl
theorem Xp (n : Nat) (hn : 100 < n) (L M : List Ab) (hl : L.length ≤ 24) (hm : M.length ≤ 24) (h : L = M) : g13 n L M = some true := by
  subst h
  unfold g13
  rw [bne_self_eq_false, cond_false]
  have := aQ L L rfl (S := fun y : Int => L5 n L L false (L.length : Int) y) (fun i x y hx hy => by
    have hi := Dn hx
    show L5 n L L false (L.length : Int) (i : Int) = _
    unfold L5
    have hxy : x = y := by rw [hx] at hy; exact Option.some.inj hy
    subst hxy
    rw [decide_eq_true (show (i : Int) < (L.length : Int) by omega), Cw hx, wS (by omega)]
    simp only [cond_true, Option.bind_some]
    simp) (by
    show L5 n L L false (L.length : Int) (L.length : Int) = _
    unfold L5
    rw [decide_eq_false (show ¬ (L.length : Int) < (L.length : Int) by omega)]; rfl) n (by omega)
  rw [this, decide_eq_true rfl]
end Go.Proofs.YtbfabclpcamlnaaGreatDoor
set_option linter.unusedVariables false
set_option linter.unusedSimpArgs false
set_option maxHeartbeats 2000000
set_option maxRecDepth 100000
namespace Go.Proofs.YtbfabclpcamlnaaGreatDoor
theorem oW (n : Nat) (a m : Int) (hm : 0 < m ∧ m ≤ 1000) : ∃ r : Int, g5 n a m = some r ∧ 0 ≤ r ∧ r < m := by
  unfold g5
  have e : IntKind.wrap .u64 m = m := by
    show m % (2 ^ 64 : Int) = m
    omega
  have h0 : 0 ≤ IntKind.wrap .u64 a := by
    show 0 ≤ a % (2 ^ 64 : Int)
    omega
  rw [e]
  unfold Z5
  rw [if_neg (by omega), Option.bind_some, Int.tmod_eq_emod_of_nonneg h0]
  have h1 := Int.emod_nonneg (IntKind.wrap .u64 a) (show m ≠ 0 by omega)
  have h2 := Int.emod_lt_of_pos (IntKind.wrap .u64 a) (show 0 < m by omega)
  rw [wrap64 (by omega) (by omega)]
  exact ⟨_, rfl, h1, h2⟩
theorem aF (n : Nat) (hn : 300 < n) (l : List Ad) (t : Ao) (s : Int) (s0 : 0 ≤ s) (s1 : s ≤ 8) : (∃ z, z ≠ 0 ∧ g6 n l t s = some ([], [], z)) ∨
    ∃ (o x nat : List Int), g6 n l t s = some (o, x, 0) ∧ H5 l ∧ Zi n t = some 0 ∧ gT n l = some (nat, 0) ∧ nat.length = l.length ∧ sJ l.length o ∧ x.length = o.length ∧ y7 l t none o x ∧ pY nat 0 o 0 ≤ s := by
  obtain ⟨z, hz, hz0⟩ := qW n (by omega) l
  by_cases h0 : ¬ z = 0
  · exact .inl ⟨z, h0, X3 h0 (.inl hz) s⟩
  obtain rfl : z = 0 := Decidable.of_not_not h0
  have hl := hz0 rfl
  obtain ⟨nat, hnat, hnl⟩ := vJ n (by omega) l hl hz
  obtain ⟨w, hw, hw0⟩ := cS n (by omega) t
  by_cases h1 : ¬ w = 0
  · exact .inl ⟨w, h1, X3 h1 (.inr ⟨⟨nat, hnat⟩, hw⟩) s⟩
  obtain rfl : w = 0 := Decidable.of_not_not h1
  have ht := hw0 rfl
  by_cases hne : l = []
  · subst hne
    refine .inr ⟨[], [], nat, ?_, hl, hw, hnat, hnl, ⟨rfl, (fun x hx => by cases hx), List.nodup_nil⟩, rfl, trivial, s0⟩
    unfold g6
    rw [hnat]
    simp only [Option.bind_some, bne_self_eq_false, cond_false]
    rw [hw]
    simp only [Option.bind_some, bne_self_eq_false, cond_false]
    rw [decide_eq_false (show ¬ s < 0 by omega), decide_eq_false (show ¬ s > 8 by omega)]; rfl
  have B := nY n (by omega) hl ht hnl s0 s1 hne hnat hw
  have F := eR (Nl l t nat s) (Ro l.length l.length []) none
  cases hf : (Ro l.length l.length []).foldl (Ku (Nl l t nat s)) none with
  | none =>
    rw [hf] at B
    exact .inl ⟨8, by decide, B⟩
  | some r =>
    obtain ⟨o, x, e, zz⟩ := r
    rw [hf] at B
    rcases F.2.2 o x e zz hf with hc | ⟨ho, hc⟩
    · cases hc
    obtain ⟨c1, c2, c3, c4, -⟩ := Zu hc
    have hov := V9 l.length l.length [] o (fun x hx => by simp at hx) (by simp) (by simp) ho
    obtain ⟨ys, q1, q2⟩ := aK l t o none [] x c1
    rw [List.nil_append] at q1
    subst q1
    exact .inr ⟨o, x, nat, B, hl, hw, hnat, hnl, hov, c4, q2, c2⟩
theorem fJ (l : List Ad) : ∀ (o x : List Int), x.length = o.length → (Wv l o x).length = o.length
  | [], [], _ => rfl
  | [], y :: x, h => by simp at h
  | k :: o, [], h => by simp at h
  | k :: o, y :: x, h => by
    show (Wv l o x).length + 1 = o.length + 1
    rw [fJ l o x (by simpa using h)]
theorem eL (l : List Ad) : ∀ (o x : List Int) (i : Nat) (k y : Int), o[i]? = some k → x[i]? = some y → (Wv l o x)[i]? = some ⟨y, Nx l k, false, 0⟩
  | [], x, i, k, y, h1, h2 => by simp at h1
  | k0 :: o, [], i, k, y, h1, h2 => by simp at h2
  | k0 :: o, y0 :: x, 0, k, y, h1, h2 => by
    cases h1; cases h2; rfl
  | k0 :: o, y0 :: x, i + 1, k, y, h1, h2 => eL l o x i k y h1 h2
theorem strict {n : Nat} {L : List Ab} {s : List Ah} {t : Ao} (h : E6 n L s t) : L.Pairwise fun a b => a.Time < b.Time := by
  refine List.Pairwise.imp_of_mem ?_ h.uV
  intro a b ha hb hab
  obtain ⟨⟨-, -, a0, a1, -⟩, -⟩ := h.each a ha
  obtain ⟨⟨-, -, b0, b1, -⟩, -⟩ := h.each b hb
  have := (Qp n t h.tab a b a0 a1 b0 b1).2.1
  omega
theorem kC {n : Nat} {L M D : List Ab} {s : List Ah} {t : Ao} (hL : E6 n L s t) (hM : E6 n M s t) (hm : ∀ x ∈ M, x.Bd = false) (hD : ∀ x ∈ D, x.Bd = true) (hp : L.Perm (M ++ D)) : (L.filter fun d => !d.Bd) = M := by
  have h1 := hp.filter fun d => !d.Bd
  rw [List.filter_append, List.filter_eq_self (l := M) |>.2 (fun x hx => by rw [hm x hx]; rfl), List.filter_eq_nil_iff (l := D) |>.2 (fun x hx => by rw [hD x hx]; decide), List.append_nil] at h1
  exact List.Perm.eq_of_pairwise (le := fun a b : Ab => a.Time < b.Time) (fun a b _ _ p q => by omega) ((strict hL).filter _) (strict hM) h1
theorem kN (n : Nat) (hn : 100 < n) : Ff [⟨0, 0⟩] := by
  obtain ⟨z, e, h1, -⟩ := Tg 300000 (by decide) [⟨0, 0⟩]
  have : g45 300000 [⟨0, 0⟩] = some 0 := by decide +kernel
  rw [this] at e
  cases e
  exact h1 rfl
theorem wH (u : Int) (h : 0 ≤ u) : Gj u [⟨0, 0⟩] = (0, true) := by
  unfold Gj
  simp only
  rw [if_neg (by show ¬ u < 0; omega)]
  rfl
theorem bG (n : Nat) (hn : 200200 < n) (l : List Ad) (t : Ao) (sh : Int) (d : List Av) : g3 n l t sh d = some true := by
  unfold g3 g4
  rw [Option.bind_some, Bool.not_true, cond_false]
  by_cases h6 : (l.length : Int) > 6
  · rw [decide_eq_true h6]; rfl
  rw [decide_eq_false h6, cond_false]
  by_cases h8 : (d.length : Int) > 8
  · rw [decide_eq_true h8]; rfl
  rw [decide_eq_false h8, cond_false]
  obtain ⟨s, es, s0, s1⟩ := oW n sh 4 (by decide)
  rw [es, Option.bind_some]
  rcases aF n (by omega) l t s s0 (by omega) with ⟨z, hz, hb⟩ | ⟨o, x, nat, hb, hl, hw, hnat, hnl, hov, hx, hc, hsh⟩
  · rw [hb, Option.bind_some]
    dsimp only
    rw [bne_iff_ne.2 hz, cond_true]; rfl
  rw [hb, Option.bind_some]
  dsimp only
  have ho := hov.1
  rw [bne_self_eq_false, cond_false, show ((o.length : Int) != (l.length : Int)) = false by rw [ho]; exact bne_self_eq_false _, cond_false, show ((x.length : Int) != (l.length : Int)) = false by rw [hx, ho]; exact bne_self_eq_false _, cond_false]
  have hM := j0 n (by omega) hl hw (kN n (by omega)) (fun u h0 _ => wH u h0) o x none hc
  have hlen := fJ l o x hx
  have hdep := Qk hl o x none hc
  refine G4 (fun y => ∃ i : Nat, y = ((i : Int), (Wv l o x).take i) ∧ i ≤ o.length) true (fun y => o.length - y.1.toNat) (fun y ⟨i, hy, hi⟩ => ?_) n _ ⟨0, rfl, by omega⟩ (by show o.length - 0 < n; omega)
  subst hy
  dsimp only
  unfold jE
  rcases Nat.lt_or_ge i o.length with k | k
  · left
    have ho1 : o[i]? = some o[i] := List.getElem?_eq_getElem k
    have hx1 : x[i]? = some x[i] := List.getElem?_eq_getElem (by omega)
    have hr := hov.2.1 _ (List.getElem_mem k)
    generalize o[i] = q at *
    generalize x[i] = y at *
    obtain ⟨a, ha, -⟩ := Ua hl hr.1 hr.2
    have hm1 := eL l o x i q y ho1 hx1
    have hwk : Nx l q = a.Bc := by unfold Nx; rw [ha]; rfl
    have htk : (Wv l o x).take (i + 1) = (Wv l o x).take i ++ [⟨y, a.Bc, false, 0⟩] := by rw [List.take_add_one, hm1, hwk]; rfl
    have hll : ((Wv l o x).take i).length = i := by rw [List.length_take]; omega
    rw [decide_eq_true (show (i : Int) < (o.length : Int) by omega), cond_true, Cw ho1, Option.bind_some, decide_eq_false (show ¬ q < 0 by omega), cond_false, decide_eq_false (show ¬ q ≥ (l.length : Int) by omega), cond_false, Cw hx1, Option.bind_some, ha, Option.bind_some, Jg (by rw [hll]; simp only [List.length_cons, List.length_nil]; omega) (by rw [hll]; simp only [List.length_cons, List.length_nil]; omega), Option.bind_some, wS (by omega)]
    exact ⟨_, rfl, ⟨i + 1, by rw [htk], by omega⟩, by show o.length - ((i + 1 : Nat) : Int).toNat < o.length - (i : Int).toNat; omega⟩
  · right
    have hi' : i = o.length := by omega
    subst hi'
    rw [show (Wv l o x).take o.length = Wv l o x by rw [← hlen, List.take_length]]
    rw [decide_eq_false (show ¬ (o.length : Int) < (o.length : Int) by omega), cond_false]
    have hshift : g8 n l o = some (pY nat 0 o 0, 0) := by
      unfold g8
      rw [hnat]
      simp only [Option.bind_some, bne_self_eq_false, cond_false]
      obtain ⟨bq, hbq, hbi⟩ := mH n (by omega) o l.length (by omega) (by omega) (by omega)
      rw [hbq, hbi.2 hov]
      simp only [Option.bind_some, Bool.not_true, cond_false]
      rw [Xa n (by omega) nat o (by omega) (by omega)]; rfl
    have hsafe := hM.run (by omega) (by omega)
    have hins := aD n hn [⟨0, 0⟩] t (Wv l o x) d hM (by omega)
    rw [show (⟨t.Cf, t.Ce, t.Ci, t.Cn, t.Cd, t.Cl, t.Cr, t.Co, t.Cm, t.Ck, t.Ch, t.Cg, t.Cb, t.Cj, t.Cq, t.Cp⟩ : Ao) = t from rfl, hsafe, Option.bind_some, hshift, Option.bind_some, hins, Option.bind_some]
    dsimp only
    rw [bne_self_eq_false, cond_false, decide_eq_false (show ¬ pY nat 0 o 0 > s by omega), cond_false]
    rcases cX n hn [⟨0, 0⟩] t d (Wv l o x) hM (by omega) with ⟨h1, h2⟩ | ⟨h1, h2, D, h3, h4, h5⟩
    · rw [Aei h1, cond_true, h2]; rfl
    have hlen2 := h5.length_eq
    rw [List.length_append, h3] at hlen2
    rw [h1, bne_self_eq_false, cond_false, h2.run (by omega) (by omega), Option.bind_some, Jg (by omega) (by omega), Option.bind_some]
    dsimp only
    have heq := kC h2 hM (fun y hy => (hdep y hy).2.2.1) h4 h5
    generalize (foldI n [⟨0, 0⟩] t d (Wv l o x)).1 = A at *
    cases A with
    | nil =>
      have hm0 : Wv l o x = [] := heq.symm
      rw [hm0]
      rw [show (([] : List Ab).isEmpty) = true from rfl, cond_true, show ((0 : Int) == 0) = true from rfl, cond_true, Xp n (by omega) [] [] (by decide) (by decide) rfl]; rfl
    | cons a A =>
      rw [show ((a :: A).isEmpty) = false from rfl, cond_false, show neO (a :: A) = some () from rfl, Option.bind_some, rP n (a :: A) (by omega) (by omega), Option.bind_some, heq, show ((0 : Int) == 0) = true from rfl, cond_true, Xp n (by omega) _ _ (by omega) (by omega) rfl]; rfl
theorem Ut (l : List Ad) (t : Ao) (sh : Int) (d : List Av) : g3 300000 l t sh d = some true := bG 300000 (by decide) l t sh d
end Go.Proofs.YtbfabclpcamlnaaGreatDoor
