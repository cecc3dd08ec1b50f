/- taxi.Late, taxi.Most as plain programs; leaving later does not change departures, and shortens waiting. -/
import Derived.Test.YtjgokfofjkbdoaaTaxi6
set_option linter.unusedVariables false
set_option linter.unusedSimpArgs false
namespace Go.Proofs.Ytjgokfofjkbdoaa

def waits (t : Int) (m : TTaxiMove) : Bool := decide (m.Hold ≤ t) && decide (t < m.Leave)
def waitN (l : List TTaxiMove) (t : Int) : Nat := l.countP (waits t)
theorem waitN_take (l : List TTaxiMove) (t : Int) (i : Nat) (h : i < l.length) : waitN (l.take (i + 1)) t = waitN (l.take i) t + (if waits t l[i] then 1 else 0) := by
  unfold waitN
  rw [List.take_succ_eq_append_getElem h, List.countP_append]
  simp [List.countP_cons]
theorem waitN_le (l : List TTaxiMove) (t : Int) (i : Nat) : waitN (l.take i) t ≤ i := by unfold waitN; have := List.countP_le_length (p := waits t) (l := l.take i); simp at this; omega
def better (l : List TTaxiMove) (m : TTaxiMove) (p : Int × Int) : Bool := decide ((waitN l m.Hold : Int) > p.1) || (((waitN l m.Hold : Int) == p.1) && (decide ((waitN l m.Hold : Int) > 0) && decide (m.Hold < p.2)))
def mostStep (l : List TTaxiMove) (p : Int × Int) (m : TTaxiMove) : Int × Int := if better l m p then (waitN l m.Hold, m.Hold) else p
def mostOf (l k : List TTaxiMove) : Int × Int := k.foldl (mostStep l) (0, 0)
theorem mostOf_take (l : List TTaxiMove) (i : Nat) (h : i < l.length) : mostOf l (l.take (i + 1)) = mostStep l (mostOf l (l.take i)) l[i] := by
  unfold mostOf
  rw [List.take_succ_eq_append_getElem h, List.foldl_append]; rfl
theorem mostOf_inv (l : List TTaxiMove) : ∀ k : List TTaxiMove, (∀ m ∈ k, m ∈ l) → ∀ p : Int × Int, 0 ≤ p.1 → (p = (0, 0) ∨ ∃ m ∈ l, p = ((waitN l m.Hold : Int), m.Hold)) →
    0 ≤ (k.foldl (mostStep l) p).1 ∧ p.1 ≤ (k.foldl (mostStep l) p).1 ∧ (∀ m ∈ k, (waitN l m.Hold : Int) ≤ (k.foldl (mostStep l) p).1) ∧ ((k.foldl (mostStep l) p) = (0, 0) ∨ ∃ m ∈ l, (k.foldl (mostStep l) p) = ((waitN l m.Hold : Int), m.Hold))
  | [], _, p, h0, hp => ⟨h0, Int.le_refl _, fun m hm => by simp at hm, hp⟩
  | m :: k, hk, p, h0, hp => by
    have hm : m ∈ l := hk m (by simp)
    simp only [List.foldl_cons]
    have st : p.1 ≤ (mostStep l p m).1 ∧ (waitN l m.Hold : Int) ≤ (mostStep l p m).1 ∧ (mostStep l p m = (0, 0) ∨ ∃ x ∈ l, mostStep l p m = ((waitN l x.Hold : Int), x.Hold)) := by
      unfold mostStep
      by_cases hb : better l m p = true
      · rw [if_pos hb]
        refine ⟨?_, Int.le_refl _, .inr ⟨m, hm, rfl⟩⟩
        unfold better at hb
        simp at hb
        show p.1 ≤ (waitN l m.Hold : Int)
        omega
      · rw [if_neg hb]
        refine ⟨Int.le_refl _, ?_, hp⟩
        unfold better at hb
        simp at hb
        omega
    obtain ⟨q1, q2, q3, q4⟩ := mostOf_inv l k (fun x hx => hk x (by simp [hx])) (mostStep l p m) (by omega) st.2.2
    refine ⟨q1, by omega, fun x hx => ?_, q4⟩
    rcases List.mem_cons.1 hx with rfl | hx
    · omega
    · exact q3 x hx
/- some departure begins to wait when all of those wait -/
theorem waitN_hold (l : List TTaxiMove) (t : Int) (h : 0 < waitN l t) : ∃ m ∈ l, waitN l t ≤ waitN l m.Hold := by
  have key : ∀ k : List TTaxiMove, (∃ m ∈ k, waits t m = true) → ∃ m ∈ k, waits t m = true ∧ ∀ x ∈ k, waits t x = true → x.Hold ≤ m.Hold := by
    intro k
    induction k with
    | nil => rintro ⟨m, hm, -⟩; simp at hm
    | cons y k ih =>
      rintro ⟨m, hm, hw⟩
      by_cases hk : ∃ m ∈ k, waits t m = true
      · obtain ⟨m', hm', hw', hmax⟩ := ih hk
        by_cases hy : waits t y = true ∧ m'.Hold < y.Hold
        · refine ⟨y, by simp, hy.1, fun x hx hxw => ?_⟩
          rcases List.mem_cons.1 hx with rfl | hx
          · exact Int.le_refl _
          · have := hmax x hx hxw; omega
        · refine ⟨m', by simp [hm'], hw', fun x hx hxw => ?_⟩
          rcases List.mem_cons.1 hx with rfl | hx
          · rcases Int.lt_or_le m'.Hold x.Hold with h | h
            · exact absurd ⟨hxw, h⟩ hy
            · exact h
          · exact hmax x hx hxw
      · rcases List.mem_cons.1 hm with rfl | hm
        · refine ⟨m, by simp, hw, fun x hx hxw => ?_⟩
          rcases List.mem_cons.1 hx with rfl | hx
          · exact Int.le_refl _
          · exact absurd ⟨x, hx, hxw⟩ hk
        · exact absurd ⟨m, hm, hw⟩ hk
  obtain ⟨m, hm, hw, hmax⟩ := key l (by
    unfold waitN at h
    rw [List.countP_pos_iff] at h
    obtain ⟨m, hm, hw⟩ := h
    exact ⟨m, hm, hw⟩)
  refine ⟨m, hm, ?_⟩
  unfold waitN
  refine List.countP_mono_left fun x hx hxw => ?_
  have := hmax x hx hxw
  simp only [waits, Bool.and_eq_true, decide_eq_true_eq] at hxw hw ⊢
  omega
theorem most_law (l : List TTaxiMove) (t : Int) : (waitN l t : Int) ≤ (mostOf l l).1 ∧ 0 ≤ (mostOf l l).1 ∧ ((mostOf l l) = (0, 0) ∨ (waitN l (mostOf l l).2 : Int) = (mostOf l l).1) := by
  obtain ⟨q1, -, q3, q4⟩ := mostOf_inv l l (fun m hm => hm) (0, 0) (Int.le_refl _) (.inl rfl)
  refine ⟨?_, q1, ?_⟩
  · rcases Nat.eq_zero_or_pos (waitN l t) with h | h
    · rw [h]; exact q1
    · obtain ⟨m, hm, hle⟩ := waitN_hold l t h
      have := q3 m hm
      unfold mostOf
      omega
  · rcases q4 with h | ⟨m, hm, h⟩
    · exact .inl h
    · right
      show (waitN l (l.foldl (mostStep l) (0, 0)).2 : Int) = (l.foldl (mostStep l) (0, 0)).1
      rw [h]

theorem waiting_eq (n : Nat) (l : List TTaxiMove) (t : Int) (hl : l.length ≤ 1000) (hn : l.length < n) : g9 n l t = some (waitN l t : Int) := by
  unfold g9
  refine iterO_eq (fun x => ∃ i : Nat, i ≤ l.length ∧ x = ((waitN (l.take i) t : Int), (i : Int))) _ (fun x => l.length - x.2.toNat) ?_ n _ ⟨0, Nat.zero_le _, rfl⟩ (by simpa using hn)
  rintro _ ⟨i, hi, rfl⟩
  rcases Nat.lt_or_ge i l.length with hlt | hge
  · have hx : l[i]? = some l[i] := List.getElem?_eq_getElem hlt
    have hw := waitN_take l t i hlt
    have hle := waitN_le l t i
    generalize l[i] = x at hx hw
    have e1 := wS (i := i) (by omega)
    have e2 := wS (i := waitN (l.take i) t) (by omega)
    refine .inl ⟨_, ?_, ⟨i + 1, hlt, rfl⟩, by simp; omega⟩
    unfold S9_0
    simp only [decide_eq_true (show (i : Int) < (l.length : Int) by omega), getI_at hx, e1, e2, cond_true, Option.bind_some, hw, Bool.cond_eq_ite, waits]
    by_cases h1 : t ≥ x.Hold <;> by_cases h2 : t < x.Leave <;> simp [h1, h2]
    all_goals (try omega)
  · have : i = l.length := by omega
    subst this
    right
    unfold S9_0
    simp [List.take_length]
theorem most_eq (n : Nat) (l : List TTaxiMove) (hl : l.length ≤ 1000) (hn : l.length < n) : g8 n l = some (mostOf l l) := by
  unfold g8
  refine iterO_eq (fun x => ∃ i : Nat, i ≤ l.length ∧ x = ((mostOf l (l.take i)).1, (mostOf l (l.take i)).2, (i : Int))) _ (fun x => l.length - x.2.2.toNat) ?_ n _ ⟨0, Nat.zero_le _, rfl⟩ (by simpa using hn)
  rintro _ ⟨i, hi, rfl⟩
  rcases Nat.lt_or_ge i l.length with hlt | hge
  · have hx : l[i]? = some l[i] := List.getElem?_eq_getElem hlt
    have hw := mostOf_take l i hlt
    generalize l[i] = x at hx hw
    have e1 := wS (i := i) (by omega)
    refine .inl ⟨_, ?_, ⟨i + 1, hlt, rfl⟩, by simp; omega⟩
    unfold S8_0
    simp only [decide_eq_true (show (i : Int) < (l.length : Int) by omega), getI_at hx, e1, cond_true, Option.bind_some, waiting_eq n l _ hl hn, hw, Bool.cond_eq_ite, mostStep, better]
    by_cases h1 : (waitN l x.Hold : Int) > (mostOf l (l.take i)).1
    · simp [h1]
    by_cases h2 : ((waitN l x.Hold : Int) == (mostOf l (l.take i)).1) = true
    · by_cases h3 : 0 < waitN l x.Hold <;> by_cases h4 : x.Hold < (mostOf l (l.take i)).2 <;> simp [h1, h2, h3, h4]
    · simp [h1, h2]
  · have : i = l.length := by omega
    subst this
    right
    unfold S8_0
    simp [List.take_length]
/- Late -/
def push (slack : Int) (m : TTaxiMove) : TTaxiMove := if m.Leave - m.Hold - slack > 0 then ⟨m.Call, m.Push + (m.Leave - m.Hold - slack), m.Hold + (m.Leave - m.Hold - slack), m.Leave⟩ else m
theorem late_tot (n : Nat) (hn : 100 < n) (l : List TTaxiStand) (d : List TTaxiAsk) (gap slack : Int) (M : List TTaxiMove) (e : Int) (hq : g6 n l d gap = some (M, e)) (hM : e = 0 → QueueOk gap M ∧ M.length ≤ 1000 ∧ M.length < n) :
    ∃ r, g7 n l d gap slack = some r ∧ (r.2 ≠ 0 ∧ r.1 = [] ∨ r.2 = 0 ∧ e = 0 ∧ 0 ≤ slack ∧ r.1 = M.map (push slack)) := by
  unfold g7
  rw [hq]
  simp only [Option.bind_some]
  by_cases h0 : ¬ e = 0
  · refine ⟨([], e), ?_, .inl ⟨h0, rfl⟩⟩
    rw [show (e != 0) = true from bne_iff_ne.2 h0]; rfl
  have h0 : e = 0 := Decidable.of_not_not h0
  obtain ⟨hok, hl, hn'⟩ := hM h0
  subst h0
  by_cases g1 : slack < 0
  · exact ⟨([], 4), by simp [g1], .inl ⟨by decide, rfl⟩⟩
  by_cases g2 : slack > 1800
  · exact ⟨([], 4), by simp [g1, g2], .inl ⟨by decide, rfl⟩⟩
  rw [decide_eq_false g1, decide_eq_false g2]
  simp only [bne_self_eq_false, cond_false]
  refine ⟨(M.map (push slack), 0), ?_, .inr ⟨rfl, by trivial, by omega, rfl⟩⟩
  refine iterO_eq (fun x => ∃ i : Nat, i ≤ M.length ∧ x = ((i : Int), (M.take i).map (push slack) ++ M.drop i)) _ (fun x => M.length - x.1.toNat) ?_ n _ ⟨0, Nat.zero_le _, rfl⟩ (by simpa using hn')
  rintro _ ⟨i, hi, rfl⟩
  rcases Nat.lt_or_ge i M.length with hlt | hge
  · have hx : M[i]? = some M[i] := List.getElem?_eq_getElem hlt
    have htk : M.take (i + 1) = M.take i ++ [M[i]] := List.take_succ_eq_append_getElem hlt
    have hdr : M.drop i = M[i] :: M.drop (i + 1) := List.drop_eq_getElem_cons hlt
    generalize M[i] = x at hx htk hdr
    have hb := hok.each i x hx
    have e1 := wS (i := i) (by omega)
    have hlen : ((M.take i).map (push slack)).length = i := by simp; omega
    have hL : ∀ y r, getI ((M.take i).map (push slack) ++ y :: r) (i : Int) = some y := fun y r => by rw [getI_nat, List.getElem?_append_right (by omega), hlen]; simp
    have hS : ∀ y z r, ((M.take i).map (push slack) ++ y :: r).set i z = (M.take i).map (push slack) ++ z :: r := fun y z r => by rw [List.set_append_right _ _ (by omega), hlen]; simp
    refine .inl ⟨_, ?_, ⟨i + 1, hlt, rfl⟩, by simp; omega⟩
    rw [hdr, htk]
    unfold S7_0
    have w1 : IntKind.wrap .i64 (x.Leave - x.Hold) = x.Leave - x.Hold := wrap64 (by omega) (by omega)
    have w2 : IntKind.wrap .i64 (x.Leave - x.Hold - slack) = x.Leave - x.Hold - slack := wrap64 (by omega) (by omega)
    simp only [decide_eq_true (show (i : Int) < (M.length : Int) by omega), hL, hS, Int.toNat_natCast, e1, cond_true, Option.bind_some, w1, w2]
    by_cases h1 : x.Leave - x.Hold - slack > 0
    · have w3 : IntKind.wrap .i64 (x.Push + (x.Leave - x.Hold - slack)) = x.Push + (x.Leave - x.Hold - slack) := wrap64 (by omega) (by omega)
      have w4 : IntKind.wrap .i64 (x.Hold + (x.Leave - x.Hold - slack)) = x.Hold + (x.Leave - x.Hold - slack) := wrap64 (by omega) (by omega)
      have hp : push slack x = ⟨x.Call, x.Push + (x.Leave - x.Hold - slack), x.Hold + (x.Leave - x.Hold - slack), x.Leave⟩ := by rw [push, if_pos h1]
      rw [decide_eq_true h1, cond_true, w3, w4, List.map_append, List.map_cons, hp]
      simp
    · have hp : push slack x = x := by rw [push, if_neg h1]
      rw [decide_eq_false h1, cond_false, List.map_append, List.map_cons, hp]
      simp
  · have : i = M.length := by omega
    subst this
    right
    unfold S7_0
    simp [List.take_length]
/- the law -/
theorem push_ok (slack : Int) (m : TTaxiMove) (h0 : 0 ≤ slack) (h : m.Hold ≤ m.Leave) : (push slack m).Call = m.Call ∧ (push slack m).Leave = m.Leave ∧ m.Push ≤ (push slack m).Push ∧ (push slack m).Hold - (push slack m).Push = m.Hold - m.Push ∧ (push slack m).Hold ≤ m.Leave ∧ m.Leave - (push slack m).Hold ≤ slack ∧ m.Hold ≤ (push slack m).Hold := by
  unfold push
  split <;> simp <;> omega
theorem waits_push (slack : Int) (M : List TTaxiMove) (h0 : 0 ≤ slack) (h : ∀ m ∈ M, m.Hold ≤ m.Leave) (t : Int) : waitN (M.map (push slack)) t ≤ waitN M t := by
  unfold waitN
  rw [List.countP_map]
  refine List.countP_mono_left fun x hx hxw => ?_
  have := push_ok slack x h0 (h x hx)
  simp only [waits, Function.comp, Bool.and_eq_true, decide_eq_true_eq] at hxw ⊢
  omega
theorem orders_law (l : List TTaxiStand) (d : List TTaxiAsk) (gap slack : Int) (n : Nat) (hn : 100 < n) (hd : d.length < n) : g3 n l d gap slack = some true := by
  unfold g3 g5
  obtain ⟨⟨M, e⟩, q1, q2⟩ := queue_tot n hn l d gap
  have hlen : e = 0 → QueueOk gap M ∧ M.length ≤ 1000 ∧ M.length < n := by
    intro h
    rcases q2 with ⟨q2, -⟩ | ⟨-, q3, q4, q5⟩
    · exact absurd h q2
    · have q3 : M.length = d.length := q3
      exact ⟨q5, by omega, by omega⟩
  obtain ⟨⟨N, f⟩, k1, k2⟩ := late_tot n hn l d gap slack M e q1 hlen
  rw [q1, k1]
  simp only [Option.bind_some, Bool.not_true, cond_false]
  rcases k2 with ⟨k2, k3⟩ | ⟨k2, k3, k4, k5⟩
  · have k2 : f ≠ 0 := k2
    have k3 : N = [] := k3
    subst k3
    rw [show (f != 0) = true from bne_iff_ne.2 k2]
    cases (e != 0) <;> rfl
  have k2 : f = 0 := k2
  have k5 : N = M.map (push slack) := k5
  subst k2 k3 k5
  obtain ⟨hok, hm1, hm2⟩ := hlen rfl
  have hM : ∀ m ∈ M, m.Hold ≤ m.Leave := fun m hm => by
    obtain ⟨j, hj, rfl⟩ := List.getElem_of_mem hm
    exact (hok.each j _ (List.getElem?_eq_getElem hj)).2.2.2.1
  rcases q2 with ⟨q2, -⟩ | ⟨-, q3, q4, q5⟩
  · exact absurd rfl q2
  have q3 : M.length = d.length := q3
  simp only [bne_self_eq_false, cond_false, List.length_map, q3]
  rw [← q3]
  have hw := waits_push slack M k4 hM
  have hmost : (mostOf (M.map (push slack)) (M.map (push slack))).1 ≤ (mostOf M M).1 := by
    have b1 := most_law (M.map (push slack)) 0
    have b2 := most_law M (mostOf (M.map (push slack)) (M.map (push slack))).2
    have b3 := hw (mostOf (M.map (push slack)) (M.map (push slack))).2
    rcases b1.2.2 with h | h
    · rw [h]; exact b2.2.1
    · omega
  refine iterO_eq (fun x => ∃ i : Nat, i ≤ M.length ∧ x = (i : Int)) _ (fun x => M.length - x.toNat) ?_ n _ ⟨0, Nat.zero_le _, rfl⟩ (by simpa using hm2)
  rintro _ ⟨i, hi, rfl⟩
  rcases Nat.lt_or_ge i M.length with hlt | hge
  · have hx : M[i]? = some M[i] := List.getElem?_eq_getElem hlt
    generalize M[i] = x at hx
    have hy : (M.map (push slack))[i]? = some (push slack x) := by rw [List.getElem?_map, hx]; rfl
    have hb := hok.each i x hx
    obtain ⟨p1, p2, p3, p4, p5, p6, p7⟩ := push_ok slack x k4 hb.2.2.2.1
    have e1 := wS (i := i) (by omega)
    refine .inl ⟨_, ?_, ⟨i + 1, hlt, rfl⟩, by simp; omega⟩
    unfold S3_0
    have w1 : IntKind.wrap .i64 ((push slack x).Hold - (push slack x).Push) = x.Hold - x.Push := by rw [p4]; exact wrap64 (by omega) (by omega)
    have w2 : IntKind.wrap .i64 (x.Hold - x.Push) = x.Hold - x.Push := wrap64 (by omega) (by omega)
    have w3 : IntKind.wrap .i64 (x.Leave - (push slack x).Hold) = x.Leave - (push slack x).Hold := wrap64 (by omega) (by omega)
    have c1 : decide ((push slack x).Push < x.Push) = false := decide_eq_false (by omega)
    have c2 : decide (x.Leave < (push slack x).Hold) = false := decide_eq_false (by omega)
    have c3 : decide (x.Leave - (push slack x).Hold > (if 0 > slack then 0 else slack)) = false := decide_eq_false (by rw [if_neg (by omega)]; omega)
    simp only [decide_eq_true (show (i : Int) < (M.length : Int) by omega), getI_at hx, getI_at hy, p1, p2, w1, w2, w3, c1, c2, c3, cond_true, cond_false, Option.bind_some, beq_self_eq_true, bne_self_eq_false, Bool.not_true, e1]
    rcases Nat.eq_zero_or_pos i with h0 | h0
    · subst h0; rfl
    · obtain ⟨k, rfl⟩ : ∃ k, i = k + 1 := ⟨i - 1, by omega⟩
      have hp : M[k]? = some M[k] := List.getElem?_eq_getElem (by omega)
      generalize M[k] = p at hp
      have hg := hok.gaps k p x hp hx
      have hpb := hok.each k p hp
      have e2 : IntKind.wrap .i64 (((k + 1 : Nat) : Int) - 1) = (k : Int) := by rw [wrap64 (by omega) (by omega)]; omega
      have w4 : IntKind.wrap .i64 (x.Leave - p.Leave) = x.Leave - p.Leave := wrap64 (by omega) (by omega)
      rw [decide_eq_true (show ((k + 1 : Nat) : Int) > 0 by omega), e2, getI_at hp]
      simp only [Option.bind_some, cond_true, w4, decide_eq_false (show ¬ x.Leave - p.Leave < gap by omega), cond_false]
  · have : i = M.length := by omega
    subst this
    right
    unfold S3_0
    rw [decide_eq_false (show ¬ (M.length : Int) < (M.length : Int) by omega), most_eq n M (by omega) (by omega), most_eq n _ (by simp; omega) (by simp; omega)]
    simp only [cond_false, Option.bind_some, decide_eq_true hmost]
end Go.Proofs.Ytjgokfofjkbdoaa
