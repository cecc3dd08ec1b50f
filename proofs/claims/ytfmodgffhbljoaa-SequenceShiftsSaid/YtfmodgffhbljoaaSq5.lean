/- Later times of all arrivals make all landings later by the same number of seconds: the law. -/
import Derived.Test.YtfmodgffhbljoaaSq4
set_option linter.unusedVariables false
set_option linter.unusedSimpArgs false
namespace Go.Proofs.Ytfmodgffhbljoaa

def lat (by_ : Int) (x : TSequenceArrival) : TSequenceArrival := ⟨x.Call, x.Wake, x.Time + by_, x.Latest + by_⟩
/- what the law's first loop asks of each arrival -/
def Calm (by_ : Int) (l : List TSequenceArrival) : Prop := ∀ x ∈ l, 0 ≤ x.Time ∧ x.Time ≤ 200000 ∧ 0 ≤ x.Latest ∧ x.Latest ≤ 200000 - by_
theorem getI_map {α β : Type} (f : α → β) (l : List α) (i : Int) : getI (l.map f) i = (getI l i).map f := by
  unfold getI
  split
  · rw [List.getElem?_map]
  · rfl
theorem sliceO_map {α β : Type} (f : α → β) (l : List α) (a b : Option Int) : sliceO (l.map f) a b = (sliceO l a b).map (List.map f) := by
  unfold sliceO
  simp only [List.length_map]
  split <;> simp [List.map_drop, List.map_take]
theorem has_lat (n : Nat) (by_ : Int) (l : List TSequenceArrival) (c : ByteArray) (w t e t' e' : Int) : g63 n (l.map (lat by_)) c w t' e' = g63 n l c w t e := by
  unfold g63 g71
  rw [List.length_map]
  congr 1
  congr 1
  funext y
  unfold S71_0
  rw [getI_map]
  cases getI l y with
  | none => rfl
  | some x => rfl
theorem check_lat (n : Nat) {by_ : Int} (b0 : 0 ≤ by_) (b1 : by_ ≤ 500) (l : List TSequenceArrival) (hc : Calm by_ l) : g50 n (l.map (lat by_)) = g50 n l := by
  unfold g50
  rw [List.length_map]
  congr 1
  congr 1
  funext y
  unfold S50_0
  rw [getI_map]
  cases hx : getI l y with
  | none => rfl
  | some x =>
    have hm : x ∈ l := by
      unfold getI at hx
      split at hx
      · exact List.mem_of_getElem? hx
      · cases hx
    obtain ⟨h1, h2, h3, h4⟩ := hc x hm
    simp only [Option.map_some, Option.bind_some, lat]
    rw [decide_eq_false (show ¬ x.Time + by_ < 0 by omega), decide_eq_false (show ¬ x.Time < 0 by omega), decide_eq_false (show ¬ x.Latest + by_ > 200000 by omega), decide_eq_false (show ¬ x.Latest > 200000 by omega),
      show decide (x.Time + by_ > x.Latest + by_) = decide (x.Time > x.Latest) by rw [decide_eq_decide]; omega, sliceO_map]
    cases sliceO l none (some y) with
    | none => rfl
    | some p =>
      simp only [Option.map_some, Option.bind_some]
      rw [has_lat n by_ p x.Call x.Wake x.Time x.Latest]
theorem cmp_lat (by_ : Int) (l : List TSequenceArrival) (i j : Int) : cmpN (l.map (lat by_)) i j = cmpN l i j := by
  unfold cmpN
  rw [getI_map, getI_map]
  cases getI l i with
  | none => rfl
  | some a =>
    cases getI l j with
    | none => rfl
    | some b =>
      simp only [Option.map_some, Option.bind_some, lat]
      rw [show a.Time + by_ - (b.Time + by_) = a.Time - b.Time by omega]
theorem nat_lat (n : Nat) (hn : 100 < n) {by_ : Int} (b0 : 0 ≤ by_) (b1 : by_ ≤ 500) (l : List TSequenceArrival) (hl : l.length ≤ 8) (hc : Calm by_ l) (h0 : g50 n l = some 0) : g31 n (l.map (lat by_)) = g31 n l := by
  rw [nat_eq n hn _ (by simpa using hl) (by rw [check_lat n b0 b1 l hc]; exact h0), nat_eq n hn l hl h0, List.length_map]
  congr 2
  funext x y
  exact cmp_lat by_ l x y
def addP (by_ : Int) : Option (Int × Int) → Option (Int × Int)
  | none => none
  | some (x, w) => some (x + by_, w)
theorem tm_lat (by_ : Int) (l : List TSequenceArrival) (t : TWakeTable) : ∀ (o : List Int) (p : Option (Int × Int)) (acc : List Int), tmG (l.map (lat by_)) t o (addP by_ p) (acc.map (· + by_)) = ((tmG l t o p acc).1.map (· + by_), (tmG l t o p acc).2)
  | [], p, acc => by unfold tmG; rfl
  | i :: o, p, acc => by
    unfold tmG
    rw [getI_map]
    cases getI l i with
    | none => rfl
    | some a =>
      obtain ⟨C, W, T, L⟩ := a
      cases p with
      | none =>
        show (if T + by_ > L + by_ then (([], false) : List Int × Bool) else tmG (l.map (lat by_)) t o (some (T + by_, W)) (acc.map (· + by_) ++ [T + by_])) = ((if T > L then (([], false) : List Int × Bool) else tmG l t o (some (T, W)) (acc ++ [T])).1.map (· + by_), (if T > L then (([], false) : List Int × Bool) else tmG l t o (some (T, W)) (acc ++ [T])).2)
        by_cases h : T > L
        · rw [if_pos h, if_pos (by omega)]; rfl
        · rw [if_neg h, if_neg (by omega)]
          have := tm_lat by_ l t o (some (T, W)) (acc ++ [T])
          simp only [addP, List.map_append, List.map_cons, List.map_nil] at this
          exact this
      | some xw =>
        obtain ⟨x, w⟩ := xw
        have e : (if x + by_ + cell t w W > T + by_ then x + by_ + cell t w W else T + by_) = (if x + cell t w W > T then x + cell t w W else T) + by_ := by
          split <;> split <;> omega
        show (if (if x + by_ + cell t w W > T + by_ then x + by_ + cell t w W else T + by_) > L + by_ then (([], false) : List Int × Bool) else tmG (l.map (lat by_)) t o (some ((if x + by_ + cell t w W > T + by_ then x + by_ + cell t w W else T + by_), W)) (acc.map (· + by_) ++ [if x + by_ + cell t w W > T + by_ then x + by_ + cell t w W else T + by_])) = ((if (if x + cell t w W > T then x + cell t w W else T) > L then (([], false) : List Int × Bool) else tmG l t o (some ((if x + cell t w W > T then x + cell t w W else T), W)) (acc ++ [if x + cell t w W > T then x + cell t w W else T])).1.map (· + by_), (if (if x + cell t w W > T then x + cell t w W else T) > L then (([], false) : List Int × Bool) else tmG l t o (some ((if x + cell t w W > T then x + cell t w W else T), W)) (acc ++ [if x + cell t w W > T then x + cell t w W else T])).2)
        rw [e]
        generalize (if x + cell t w W > T then x + cell t w W else T) = z
        by_cases h : z > L
        · rw [if_pos h, if_pos (by omega)]; rfl
        · rw [if_neg h, if_neg (by omega)]
          have := tm_lat by_ l t o (some (z, W)) (acc ++ [z])
          simp only [addP, List.map_append, List.map_cons, List.map_nil] at this
          exact this
theorem sum_lat (by_ : Int) (l : List TSequenceArrival) : ∀ (o x : List Int) (s : Int), sumT (l.map (lat by_)) o (x.map (· + by_)) s = sumT l o x s
  | [], x, s => by cases x <;> rfl
  | k :: o, [], s => rfl
  | k :: o, y :: x, s => by
    rw [List.map_cons]
    unfold sumT
    rw [getI_map]
    cases getI l k with
    | none => rfl
    | some a =>
      simp only [Option.map_some, Option.bind_some, lat]
      rw [show y + by_ - (a.Time + by_) = y - a.Time by omega]
      exact sum_lat by_ l o x _
def latC (by_ : Int) : List Int × Int × Int → List Int × Int × Int := fun c => (c.1.map (· + by_), c.2.1 + by_, c.2.2)
theorem cand_lat (by_ : Int) (l : List TSequenceArrival) (t : TWakeTable) (nat : List Int) (most : Int) (o : List Int) : candO (l.map (lat by_)) t nat most o = (candO l t nat most o).map (latC by_) := by
  have h := tm_lat by_ l t o none []
  simp only [addP, List.map_nil] at h
  unfold candO
  rw [h]
  generalize tmG l t o none [] = r
  obtain ⟨x, q⟩ := r
  simp only
  cases q with
  | false => simp
  | true =>
    simp only [Bool.true_eq_false, if_false]
    by_cases hd : shF nat 0 o 0 > most
    · rw [if_pos hd, if_pos hd]; rfl
    · rw [if_neg hd, if_neg hd, sum_lat, List.getLast?_map]
      cases x.getLast? with
      | none => rfl
      | some e =>
        simp only [Option.map_some, Option.bind_some]
        cases sumT l o x 0 with
        | none => rfl
        | some z => rfl
def latS (by_ : Int) : BestS → BestS
  | none => none
  | some (o, x, e, z) => some (o, x.map (· + by_), e + by_, z)
theorem fold_lat (by_ : Int) (c c' : List Int → Option (List Int × Int × Int)) (h : ∀ o, c' o = (c o).map (latC by_)) : ∀ (L : List (List Int)) (s : BestS), L.foldl (visP c') (latS by_ s) = latS by_ (L.foldl (visP c) s)
  | [], s => rfl
  | o :: L, s => by
    rw [List.foldl_cons, List.foldl_cons, ← fold_lat by_ c c' h L]
    congr 1
    unfold visP
    rw [h]
    cases c o with
    | none => rfl
    | some r =>
      obtain ⟨x, e, z⟩ := r
      cases s with
      | none => rfl
      | some r2 =>
        obtain ⟨b, a, e0, z0⟩ := r2
        simp only [Option.map_some, latC, latS]
        by_cases q : e < e0 ∨ (e = e0 ∧ z < z0)
        · rw [if_pos q, if_pos (by omega)]
        · rw [if_neg q, if_neg (by omega)]
theorem okA_lat {by_ : Int} (b0 : 0 ≤ by_) {l : List TSequenceArrival} (hl : ArrOk l) (hc : Calm by_ l) : ArrOk (l.map (lat by_)) := by
  refine ⟨by simpa using hl.len, fun x hx => ?_, fun i j x y hij hx hy => ?_⟩
  · obtain ⟨y, hy, rfl⟩ := List.mem_map.1 hx
    have h1 := hl.each y hy
    have h2 := hc y hy
    simp only [lat]
    omega
  · rw [List.getElem?_map] at hx hy
    obtain ⟨x', hx', rfl⟩ := Option.map_eq_some_iff.1 hx
    obtain ⟨y', hy', rfl⟩ := Option.map_eq_some_iff.1 hy
    exact hl.names i j x' y' hij hx' hy'
theorem tm_range {l : List TSequenceArrival} (hl : ArrOk l) (t : TWakeTable) : ∀ (o : List Int) (p : Option (Int × Int)) (acc : List Int), (∀ k ∈ o, 0 ≤ k ∧ k < (l.length : Int)) → (∀ y ∈ acc, 0 ≤ y ∧ y ≤ 200000) → ∀ y ∈ (tmG l t o p acc).1, 0 ≤ y ∧ y ≤ 200000
  | [], p, acc, _, ha => ha
  | i :: o, p, acc, hr, ha => by
    obtain ⟨a, hx, w0, w1, a0, a1, a2⟩ := arr_at hl (hr i (by simp)).1 (hr i (by simp)).2
    have go : ∀ z, a.Time ≤ z → ∀ w, ∀ y ∈ (if z > a.Latest then (([], false) : List Int × Bool) else tmG l t o (some (z, w)) (acc ++ [z])).1, 0 ≤ y ∧ y ≤ 200000 := fun z hz w y hy => by
      split at hy
      · simp at hy
      · refine tm_range hl t o _ _ (fun k hk => hr k (by simp [hk])) (fun q hq => ?_) y hy
        rcases List.mem_append.1 hq with h | h
        · exact ha q h
        · simp at h; omega
    unfold tmG
    rw [hx]
    cases p with
    | none => exact go a.Time (Int.le_refl _) a.Wake
    | some xw =>
      obtain ⟨x, w⟩ := xw
      exact go (if x + cell t w a.Wake > a.Time then x + cell t w a.Wake else a.Time) (by split <;> omega) a.Wake
def latR (by_ : Int) (r : List Int × List Int × Int) : List Int × List Int × Int := (r.1, r.2.1.map (· + by_), r.2.2)
theorem best_lat (n : Nat) (hn : 300 < n) {by_ : Int} (b0 : 0 ≤ by_) (b1 : by_ ≤ 500) (l : List TSequenceArrival) (t : TWakeTable) (hc : Calm by_ l) (most : Int) : ∃ r, g29 n l t most = some r ∧ g29 n (l.map (lat by_)) t most = some (latR by_ r) ∧ (r.1.length ≤ 8 ∧ r.2.1.length ≤ 8) ∧ ∀ x ∈ r.2.1, 0 ≤ x ∧ x ≤ 200000 := by
  obtain ⟨z, hz, hz0⟩ := arr_tot n (by omega) l
  by_cases h0 : ¬ z = 0
  · exact ⟨([], [], z), best_err h0 (.inl hz) most, best_err h0 (.inl (by rw [check_lat n b0 b1 l hc]; exact hz)) most, by simp, fun x hx => by simp at hx⟩
  obtain rfl : z = 0 := Decidable.of_not_not h0
  have hl := hz0 rfl
  have hlen := hl.len
  obtain ⟨nat, hnat, hnl⟩ := nat_tot n (by omega) l hl hz
  have hnat2 : g31 n (l.map (lat by_)) = some (nat, 0) := by rw [nat_lat n (by omega) b0 b1 l hlen hc hz]; exact hnat
  obtain ⟨w, hw, hw0⟩ := tab_tot n (by omega) t
  by_cases h1 : ¬ w = 0
  · exact ⟨([], [], w), best_err h1 (.inr ⟨⟨nat, hnat⟩, hw⟩) most, best_err h1 (.inr ⟨⟨nat, hnat2⟩, hw⟩) most, by simp, fun x hx => by simp at hx⟩
  obtain rfl : w = 0 := Decidable.of_not_not h1
  have ht := hw0 rfl
  have early : ∀ z : Int, (∀ m : List TSequenceArrival, m.length = l.length → g31 n m = some (nat, 0) → g29 n m t most = some ([], [], z)) → ∃ r, g29 n l t most = some r ∧ g29 n (l.map (lat by_)) t most = some (latR by_ r) ∧ (r.1.length ≤ 8 ∧ r.2.1.length ≤ 8) ∧ ∀ x ∈ r.2.1, 0 ≤ x ∧ x ≤ 200000 :=
    fun z h => ⟨([], [], z), h l rfl hnat, h _ (by simp) hnat2, by simp, fun x hx => by simp at hx⟩
  have start : ∀ m : List TSequenceArrival, g31 n m = some (nat, 0) → g29 n m t most = ((bif decide (most < 0) then some ([], [], 4) else bif decide (most > 8) then some ([], [], 4) else
      bif m.length == 0 then some ([], [], 0) else
      if m.length ≤ 8 then (ordR m.length (visB n m t nat most) m.length [] none).bind fun s => match s with | none => some ([], [], 8) | some (o, x, _, _) => some (o, x, 0) else none) : Option ρ29) := fun m hm => by
    unfold g29
    rw [hm]
    simp only [Option.bind_some, bne_self_eq_false, cond_false]
    rw [hw]
    simp only [Option.bind_some, bne_self_eq_false, cond_false]
    rfl
  by_cases m0 : most < 0
  · exact early 4 fun m _ hm => by rw [start m hm, decide_eq_true m0]; rfl
  by_cases m1 : most > 8
  · exact early 4 fun m _ hm => by rw [start m hm, decide_eq_false m0, decide_eq_true m1]; rfl
  by_cases hne : l = []
  · exact early 0 fun m hml hm => by
      rw [start m hm, decide_eq_false m0, decide_eq_false m1, hml, hne]; rfl
  rw [best_val n (by omega) hl ht hnl (by omega) (by omega) hne hnat hw,
    best_val n (by omega) (okA_lat b0 hl hc) ht (by simpa using hnl) (by omega) (by omega) (by simpa using hne) hnat2 hw, List.length_map]
  have hf := fold_lat by_ (candO l t nat most) (candO (l.map (lat by_)) t nat most) (fun o => cand_lat by_ l t nat most o) (ords l.length l.length []) none
  rw [show latS by_ none = none from rfl] at hf
  rw [hf]
  refine ⟨_, rfl, ?_, ?_⟩
  · cases (ords l.length l.length []).foldl (visP (candO l t nat most)) none with
    | none => rfl
    | some s => rfl
  · cases hs : (ords l.length l.length []).foldl (visP (candO l t nat most)) none with
    | none => exact ⟨by simp, fun x hx => by simp at hx⟩
    | some s =>
      obtain ⟨o, x, e, zz⟩ := s
      rcases (fold_le (candO l t nat most) (ords l.length l.length []) none).2.2 o x e zz hs with h | ⟨ho, hcd⟩
      · cases h
      have hov := ords_ok l.length l.length [] o (fun x hx => by simp at hx) (by simp) (by simp) ho
      obtain ⟨c1, c2, c3, c4, -⟩ := cand_facts hcd
      refine ⟨⟨by show o.length ≤ 8; have := hov.1; omega, by show x.length ≤ 8; have := hov.1; omega⟩, fun y hy => ?_⟩
      exact tm_range hl t o none [] (fun k hk => hov.2.1 k hk) (fun y hy => by simp at hy) y (by rw [c1]; exact hy)
theorem same_eq (n : Nat) (a : List Int) (h1 : a.length ≤ 1000) (h2 : a.length < n) : g34 n a a = some true := by
  unfold g34
  rw [bne_self_eq_false, cond_false]
  refine iterO_eq (fun y => ∃ i : Nat, i ≤ a.length ∧ y = (i : Int)) _ (fun y => a.length - y.toNat) ?_ n _ ⟨0, Nat.zero_le _, rfl⟩ (by simpa using h2)
  rintro _ ⟨i, hi, rfl⟩
  rcases Nat.lt_or_ge i a.length with hlt | hge
  · have hx : a[i]? = some a[i] := List.getElem?_eq_getElem hlt
    refine .inl ⟨_, ?_, ⟨i + 1, hlt, rfl⟩, by simp; omega⟩
    unfold S34_0
    rw [decide_eq_true (show (i : Int) < (a.length : Int) by omega), getI_at hx, wS (by omega)]
    simp only [cond_true, Option.bind_some, bne_self_eq_false, cond_false]
  · have : i = a.length := by omega
    right
    unfold S34_0
    rw [decide_eq_false (show ¬ (i : Int) < (a.length : Int) by omega)]; rfl
theorem set_mid {α : Type} (a b : List α) (x y : α) {i : Nat} (h : i = a.length) : (a ++ x :: b).set i y = a ++ y :: b := by
  subst h
  rw [List.set_append_right _ _ (Nat.le_refl _), Nat.sub_self]; rfl
theorem shifts_law (n : Nat) (hn : 300 < n) (l : List TSequenceArrival) (t : TWakeTable) (most by0 : Int) : g9 n l t most by0 = some true := by
  unfold g9 g28
  simp only [Option.bind_some, Bool.not_true, cond_false]
  by_cases h6 : (l.length : Int) > 6
  · rw [decide_eq_true h6]; rfl
  rw [decide_eq_false h6, cond_false]
  obtain ⟨p, hp, hp9⟩ := pick_tot n by0 500 (by omega) (by omega)
  have hp : g15 n by0 500 = some (p : Int) := hp
  rw [hp]
  simp only [Option.bind_some]
  rw [room_of (by omega) (by omega)]
  simp only [Option.bind_some]
  have b0 : (0 : Int) ≤ (p : Int) := by omega
  have b1 : (p : Int) ≤ 500 := by omega
  generalize (p : Int) = by_ at b0 b1 ⊢
  have ew : IntKind.wrap .i64 (200000 - by_) = 200000 - by_ := wrap64 (by omega) (by omega)
  obtain ⟨r, hr, hr2⟩ := iterO_rule (S := fun y : Int × List TSequenceArrival => S9_0 n l most by_ false (l.length : Int) t.c0_0 t.c0_1 t.c0_2 t.c0_3 t.c1_0 t.c1_1 t.c1_2 t.c1_3 t.c2_0 t.c2_1 t.c2_2 t.c2_3 t.c3_0 t.c3_1 t.c3_2 t.c3_3 y.1 y.2)
    (fun y => ∃ i : Nat, i ≤ l.length ∧ y = ((i : Int), (l.take i).map (lat by_) ++ l.drop i) ∧ ∀ x ∈ l.take i, 0 ≤ x.Time ∧ x.Time ≤ 200000 ∧ 0 ≤ x.Latest ∧ x.Latest ≤ 200000 - by_) (fun r => r = true) (fun y => l.length - y.1.toNat) (by
    rintro _ ⟨i, hi, rfl, hC⟩
    show (∃ y, S9_0 n l most by_ false (l.length : Int) t.c0_0 t.c0_1 t.c0_2 t.c0_3 t.c1_0 t.c1_1 t.c1_2 t.c1_3 t.c2_0 t.c2_1 t.c2_2 t.c2_3 t.c3_0 t.c3_1 t.c3_2 t.c3_3 (i : Int) ((l.take i).map (lat by_) ++ l.drop i) = some (.inl y) ∧ _) ∨ ∃ r, S9_0 n l most by_ false (l.length : Int) t.c0_0 t.c0_1 t.c0_2 t.c0_3 t.c1_0 t.c1_1 t.c1_2 t.c1_3 t.c2_0 t.c2_1 t.c2_2 t.c2_3 t.c3_0 t.c3_1 t.c3_2 t.c3_3 (i : Int) ((l.take i).map (lat by_) ++ l.drop i) = some (.inr r) ∧ _
    unfold S9_0
    rcases Nat.lt_or_ge i l.length with hlt | hge
    · have hx : l[i]? = some l[i] := List.getElem?_eq_getElem hlt
      have htk := List.take_succ_eq_append_getElem hlt
      rw [List.drop_eq_getElem_cons hlt]
      generalize l[i] = x at hx htk ⊢
      have hlen : ((l.take i).map (lat by_)).length = i := by simp; omega
      have hg : ∀ y : TSequenceArrival, getI ((l.take i).map (lat by_) ++ y :: l.drop (i + 1)) (i : Int) = some y := fun y => by
        rw [getI_nat, List.getElem?_append_right (by omega), hlen, Nat.sub_self]; rfl
      rw [decide_eq_true (show (i : Int) < (l.length : Int) by omega), wS (by omega), ew, Int.toNat_natCast]
      simp only [cond_true, hg, Option.bind_some]
      by_cases c1 : x.Time < 0
      · right; exact ⟨true, by rw [decide_eq_true c1]; rfl, rfl⟩
      by_cases c2 : x.Time > 200000
      · right; exact ⟨true, by rw [decide_eq_false c1, decide_eq_true c2]; rfl, rfl⟩
      by_cases c3 : x.Latest < 0
      · right; exact ⟨true, by rw [decide_eq_false c1, decide_eq_false c2, decide_eq_true c3]; rfl, rfl⟩
      by_cases c4 : x.Latest > 200000 - by_
      · right; exact ⟨true, by rw [decide_eq_false c1, decide_eq_false c2, decide_eq_false c3, decide_eq_true c4]; rfl, rfl⟩
      left
      rw [decide_eq_false c1, decide_eq_false c2, decide_eq_false c3, decide_eq_false c4]
      simp only [cond_false, set_mid _ _ _ _ hlen.symm, hg, Option.bind_some]
      rw [wrap64 (z := x.Time + by_) (by omega) (by omega), wrap64 (z := x.Latest + by_) (by omega) (by omega)]
      refine ⟨_, rfl, ⟨i + 1, hlt, ?_, fun y hy => ?_⟩, by simp; omega⟩
      · rw [htk, List.map_append, List.append_assoc]; rfl
      · rw [htk] at hy
        rcases List.mem_append.1 hy with h | h
        · exact hC y h
        · simp at h; subst h; omega
    · have : i = l.length := by omega
      rw [List.take_of_length_le hge] at hC
      rw [List.take_of_length_le hge, List.drop_eq_nil_of_le hge, List.append_nil]
      right
      rw [decide_eq_false (show ¬ (i : Int) < (l.length : Int) by omega), cond_false]
      obtain ⟨r, k1, k2, k3, k4⟩ := best_lat n hn b0 b1 l t hC most
      have k1 : g29 n l (⟨t.c0_0, t.c0_1, t.c0_2, t.c0_3, t.c1_0, t.c1_1, t.c1_2, t.c1_3, t.c2_0, t.c2_1, t.c2_2, t.c2_3, t.c3_0, t.c3_1, t.c3_2, t.c3_3⟩ : TWakeTable) most = some r := k1
      have k2 : g29 n (l.map (lat by_)) (⟨t.c0_0, t.c0_1, t.c0_2, t.c0_3, t.c1_0, t.c1_1, t.c1_2, t.c1_3, t.c2_0, t.c2_1, t.c2_2, t.c2_3, t.c3_0, t.c3_1, t.c3_2, t.c3_3⟩ : TWakeTable) most = some (latR by_ r) := k2
      rw [k1, k2]
      simp only [Option.bind_some, latR, List.length_map]
      refine ⟨true, ?_, rfl⟩
      have inner : iterO (fun y : Int × List Int => S9_1 n by_ false r.1 r.2.1 r.2.2 r.1 r.2.2 (r.2.1.length : Int) y.1 y.2) n (0, r.2.1.map (· + by_)) = some true := by
        refine iterO_eq (fun y => ∃ i : Nat, i ≤ r.2.1.length ∧ y = ((i : Int), r.2.1.take i ++ (r.2.1.drop i).map (· + by_))) _ (fun y => r.2.1.length - y.1.toNat) ?_ n _ ⟨0, Nat.zero_le _, rfl⟩ (by simp; omega)
        rintro _ ⟨j, hj, rfl⟩
        show (∃ y, S9_1 n by_ false r.1 r.2.1 r.2.2 r.1 r.2.2 (r.2.1.length : Int) (j : Int) (r.2.1.take j ++ (r.2.1.drop j).map (· + by_)) = some (.inl y) ∧ _) ∨ S9_1 n by_ false r.1 r.2.1 r.2.2 r.1 r.2.2 (r.2.1.length : Int) (j : Int) (r.2.1.take j ++ (r.2.1.drop j).map (· + by_)) = _
        unfold S9_1
        rcases Nat.lt_or_ge j r.2.1.length with hjl | hjg
        · have hm := List.getElem_mem hjl
          have htk := List.take_succ_eq_append_getElem hjl
          rw [List.drop_eq_getElem_cons hjl, List.map_cons]
          generalize r.2.1[j] = x at hm htk ⊢
          have hlen : (r.2.1.take j).length = j := by simp; omega
          have hg : ∀ (y : Int) (b : List Int), getI (r.2.1.take j ++ y :: b) (j : Int) = some y := fun y b => by
            rw [getI_nat, List.getElem?_append_right (by omega), hlen, Nat.sub_self]; rfl
          have hb := k4 x hm
          left
          rw [decide_eq_true (show (j : Int) < (r.2.1.length : Int) by omega), wS (by omega), Int.toNat_natCast]
          simp only [cond_true, hg, Option.bind_some, set_mid _ _ _ _ hlen.symm]
          rw [wrap64 (by omega) (by omega), show x + by_ - by_ = x by omega]
          exact ⟨_, rfl, ⟨j + 1, hjl, by rw [htk, List.append_assoc]; rfl⟩, by simp; omega⟩
        · right
          rw [List.take_of_length_le hjg, List.drop_eq_nil_of_le hjg, List.map_nil, List.append_nil, decide_eq_false (show ¬ (j : Int) < (r.2.1.length : Int) by omega), cond_false, beq_self_eq_true, cond_true]
          rw [same_eq n r.1 (by omega) (by omega), same_eq n r.2.1 (by omega) (by omega)]; rfl
      rw [inner]; rfl) n ((0), l) ⟨0, Nat.zero_le _, by simp, fun x hx => by simp at hx⟩ (by simp; omega)
  rw [hr, hr2]
end Go.Proofs.Ytfmodgffhbljoaa
