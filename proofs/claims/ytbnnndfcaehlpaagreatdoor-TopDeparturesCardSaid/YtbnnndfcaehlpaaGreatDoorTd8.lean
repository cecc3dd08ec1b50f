/- TopDepartures as a plain law: departures of one class that keep their gap depart at once. -/
import Derived.Test.YtbnnndfcaehlpaaGreatDoorTd7
set_option linter.unusedVariables false
set_option linter.unusedSimpArgs false
set_option maxRecDepth 100000
namespace Go.Proofs.YtbnnndfcaehlpaaGreatDoor

def std : TWakeTable := ⟨60, 60, 60, 60, 120, 60, 60, 60, 180, 120, 90, 60, 240, 180, 120, 120⟩
def gp (c : Int) : Int := if c = 2 then 90 else if c = 3 then 120 else 60
theorem pick_val (n : Nat) (a m : Int) (hm : 0 < m ∧ m ≤ 1000) : ∃ r, g5 n a m = some r ∧ 0 ≤ r ∧ r < m := by
  unfold g5
  have e : IntKind.wrap .u64 m = m := by
    show m % (2 ^ 64 : Int) = m
    omega
  have h0 : 0 ≤ IntKind.wrap .u64 a := by
    show 0 ≤ a % (2 ^ 64 : Int)
    omega
  rw [e]
  unfold modO
  rw [if_neg (by omega), Option.bind_some, Int.tmod_eq_emod_of_nonneg h0]
  have h1 := Int.emod_nonneg (IntKind.wrap .u64 a) (show m ≠ 0 by omega)
  have h2 := Int.emod_lt_of_pos (IntKind.wrap .u64 a) (show 0 < m by omega)
  rw [wrap64 (by omega) (by omega)]
  exact ⟨_, rfl, h1, h2⟩
theorem four {c : Int} (h0 : 0 ≤ c) (h1 : c < 4) : c = 0 ∨ c = 1 ∨ c = 2 ∨ c = 3 := by omega
theorem wgap_val {c : Int} (h0 : 0 ≤ c) (h1 : c < 4) : g6 301 std c c = some (gp c, 0) := by
  rcases four h0 h1 with rfl | rfl | rfl | rfl <;> decide +kernel
theorem rgap_val (n : Nat) {c : Int} (h0 : 0 ≤ c) (h1 : c < 4) (s t : Int) : g106 n std ⟨s, c, true, 0⟩ ⟨t, c, true, 0⟩ = some (gp c) := by
  rcases four h0 h1 with rfl | rfl | rfl | rfl <;> rfl
theorem gp_pos (c : Int) : 60 ≤ gp c ∧ gp c ≤ 120 := by unfold gp; split <;> (try split) <;> omega
theorem class_val (n : Nat) {c : Int} (h0 : 0 ≤ c) (h1 : c < 4) : g38 n c = some 0 := by
  unfold g38
  rw [decide_eq_false (by omega), cond_false, decide_eq_false (by omega), cond_false]
theorem dir_val (n : Nat) (t : Int) (ht : 0 ≤ t) : g39 (n + 1) [⟨0, 0⟩] t = some (0, true) := by
  unfold g39
  have e1 : getI ([⟨0, 0⟩] : List TRunwaySpan) 0 = some ⟨0, 0⟩ := rfl
  have e2 : sliceO ([⟨0, 0⟩] : List TRunwaySpan) (some 1) none = some [] := by decide
  rw [e1]
  simp only [Option.bind_some]
  rw [decide_eq_false (show ¬ t < 0 by omega), cond_false, e2, Option.bind_some]
  rfl
def mv (c t : Int) : TRunwayMove := ⟨t, c, true, 0⟩
theorem fits_val {c : Int} (h0 : 0 ≤ c) (h1 : c < 4) (t : Int) (ts : List Int) (hl : ts.length ≤ 100) (ht : 0 ≤ t ∧ t ≤ 200000) (hs : ∀ s ∈ ts, 0 ≤ s ∧ s + gp c ≤ t) : g40 301 (ts.map (mv c)) ⟨t, c, true, 0⟩ std = some true := by
  unfold g40
  refine iterO_eq (fun y => ∃ i : Nat, y = (i : Int) ∧ i ≤ ts.length) true (fun y => ts.length - y.toNat) (fun y ⟨i, hy, hi⟩ => ?_) 301 0 ⟨0, rfl, by omega⟩ (by show ts.length - 0 < 301; omega)
  subst hy
  have hp := gp_pos c
  unfold S40_0
  rw [List.length_map]
  rcases Nat.lt_or_ge i ts.length with k | k
  · have hx : ts[i]? = some ts[i] := List.getElem?_eq_getElem k
    have hb := hs _ (List.getElem_mem k)
    generalize ts[i] = s at *
    have hx2 : (ts.map (mv c))[i]? = some ⟨s, c, true, 0⟩ := by rw [List.getElem?_map, hx]; rfl
    rw [decide_eq_true (show (i : Int) < (ts.length : Int) by omega), cond_true, getI_at hx2, Option.bind_some]
    dsimp only
    rw [decide_eq_true (show s ≤ t by omega), cond_true]
    have eg := rgap_val 301 h0 h1 s t
    unfold std at eg
    simp only [std, eg, Option.bind_some]
    rw [wrap64 (z := t - s) (by omega) (by omega), decide_eq_false (show ¬ t - s < gp c by omega), cond_false, decide_eq_false (show ¬ s ≥ t by omega), cond_false, wS (by omega)]
    exact .inl ⟨_, rfl, ⟨i + 1, rfl, by omega⟩, by omega⟩
  · rw [decide_eq_false (show ¬ (i : Int) < (ts.length : Int) by omega), cond_false]
    exact .inr rfl
theorem last_val {c : Int} (t : Int) (ts : List Int) (hl : ts.length ≤ 100) (hs : ∀ s ∈ ts, s ≤ t) (b : Bool) (e w : Int) : g41 301 (ts.map (mv c)) t w b e = some (-1) := by
  unfold g41
  refine iterO_eq (fun y => ∃ i : Nat, y = (i : Int) ∧ i ≤ ts.length) (-1) (fun y => ts.length - y.toNat) (fun y ⟨i, hy, hi⟩ => ?_) 301 0 ⟨0, rfl, by omega⟩ (by show ts.length - 0 < 301; omega)
  subst hy
  unfold S41_0
  rw [List.length_map]
  rcases Nat.lt_or_ge i ts.length with k | k
  · have hx : ts[i]? = some ts[i] := List.getElem?_eq_getElem k
    have hb := hs _ (List.getElem_mem k)
    generalize ts[i] = s at *
    have hx2 : (ts.map (mv c))[i]? = some ⟨s, c, true, 0⟩ := by rw [List.getElem?_map, hx]; rfl
    rw [decide_eq_true (show (i : Int) < (ts.length : Int) by omega), cond_true, getI_at hx2, Option.bind_some]
    unfold g42
    rw [Option.bind_some]
    dsimp only
    rw [decide_eq_false (show ¬ s > t by omega), cond_false, wS (by omega)]
    exact .inl ⟨_, rfl, ⟨i + 1, rfl, by omega⟩, by omega⟩
  · rw [decide_eq_false (show ¬ (i : Int) < (ts.length : Int) by omega), cond_false]
    exact .inr rfl
def Spaced (g : Int) : List Int → Prop := List.Pairwise fun s t => s + g ≤ t
theorem insert_val {c : Int} (h0 : 0 ≤ c) (h1 : c < 4) (ts : List Int) (hl : ts.length ≤ 16) (ht : ∀ t ∈ ts, 0 ≤ t ∧ t ≤ 200000) (hs : Spaced (gp c) ts) : g9 301 [] [⟨0, 0⟩] std (ts.map fun t => (⟨t, c⟩ : TRunwayReady)) = some (ts.map (mv c), 0) := by
  have hp := gp_pos c
  have e1 : g35 301 [] [⟨0, 0⟩] std = some (0, 0, 0) := by decide +kernel
  unfold g9
  rw [e1, Option.bind_some]
  dsimp only
  rw [show ((0 : Int) != 0) = false from rfl, cond_false, List.length_nil, List.length_map, wrap64 (by omega) (by omega), decide_eq_false (by omega), cond_false, show roomO 0 32 = some () from rfl, Option.bind_some]
  refine iterO_eq (fun y => ∃ i : Nat, y = ((i : Int), (ts.take i).map (mv c)) ∧ i ≤ ts.length) _ (fun y => ts.length - y.1.toNat) (fun y ⟨i, hy, hi⟩ => ?_) 301 _ ⟨0, rfl, by omega⟩ (by show ts.length - 0 < 301; omega)
  subst hy
  dsimp only
  unfold S9_0
  rcases Nat.lt_or_ge i ts.length with k | k
  · have hx : ts[i]? = some ts[i] := List.getElem?_eq_getElem k
    have hb := ht _ (List.getElem_mem k)
    have hlt : ∀ s ∈ ts.take i, 0 ≤ s ∧ s + gp c ≤ ts[i] := fun s hm => by
      refine ⟨(ht s (List.mem_of_mem_take hm)).1, ?_⟩
      obtain ⟨j, hj, ej⟩ := List.getElem_of_mem hm
      rw [List.length_take] at hj
      rw [List.getElem_take] at ej
      rw [← ej]
      exact (List.pairwise_iff_getElem.1 hs) j i (by omega) k (by omega)
    have htk : ts.take (i + 1) = ts.take i ++ [ts[i]] := List.take_succ_eq_append_getElem k
    have hll : (ts.take i).length = i := by rw [List.length_take]; omega
    generalize ts[i] = t at *
    have hx2 : (ts.map fun t => (⟨t, c⟩ : TRunwayReady))[i]? = some ⟨t, c⟩ := by rw [List.getElem?_map, hx]; rfl
    have eg : g37 301 t = some false := by
      unfold g37
      rw [decide_eq_false (show ¬ t < 0 by omega), cond_false, decide_eq_false (show ¬ t > 200000 by omega)]
    rw [decide_eq_true (show (i : Int) < (ts.length : Int) by omega), cond_true, getI_at hx2, Option.bind_some]
    dsimp only
    rw [eg, Option.bind_some, cond_false, class_val 301 h0 h1, Option.bind_some, show ((0 : Int) != 0) = false from rfl, cond_false]
    have ef := fits_val h0 h1 t (ts.take i) (by omega) hb hlt
    have el := last_val (c := c) t (ts.take i) (by omega) (fun s hm => by have := hlt s hm; omega) true 0 c
    have ei : insO 32 ((ts.take i).map (mv c)) (((ts.take i).map (mv c)).length : Int) [⟨t, c, true, 0⟩] = some ((ts.take (i + 1)).map (mv c)) := by
      have hlen : ((ts.take i).map (mv c)).length = i := by rw [List.length_map, hll]
      unfold insO
      rw [if_pos (by rw [hlen]; simp only [List.length_cons, List.length_nil]; omega)]
      rw [htk, List.map_append, Int.toNat_natCast, List.take_length, List.drop_length, List.append_nil]
      rfl
    refine .inl ⟨(((i + 1 : Nat) : Int), (ts.take (i + 1)).map (mv c)), ?_, ⟨i + 1, rfl, by omega⟩, by show ts.length - ((i + 1 : Nat) : Int).toNat < ts.length - (i : Int).toNat; omega⟩
    unfold iterO
    dsimp only
    unfold S9_0_0
    unfold std at ef
    rw [decide_eq_true (show t ≤ 200000 by omega), cond_true, dir_val 300 t hb.1, Option.bind_some]
    dsimp only
    simp only [std, cond_true, ef, Option.bind_some]
    rw [decide_eq_false (show ¬ t > 200000 by omega), cond_false, el, Option.bind_some, decide_eq_true (show (-1 : Int) < 0 by decide), cond_true, ei, Option.bind_some, wS (by omega)]
  · rw [decide_eq_false (show ¬ (i : Int) < (ts.length : Int) by omega), cond_false, List.take_of_length_le k]
    exact .inr rfl
theorem ready_loop {α : Type} (c x : Int) (M : List TTaxiMove) (hl : M.length ≤ 100) {r : Bool}
    (hend : S3_0 301 c false 0 M (M.length : Int) (M.length : Int) (M.map fun m => (⟨m.Leave, c⟩ : TRunwayReady)) = some (.inr r)) :
    iterO (fun y : Int × List TRunwayReady => S3_0 301 c false 0 M (M.length : Int) y.1 y.2) 301 (0, []) = some r := by
  refine iterO_eq (fun y => ∃ i : Nat, y = ((i : Int), (M.take i).map fun m => (⟨m.Leave, c⟩ : TRunwayReady)) ∧ i ≤ M.length) r (fun y => M.length - y.1.toNat) (fun y ⟨i, hy, hi⟩ => ?_) 301 _ ⟨0, rfl, by omega⟩ (by show M.length - 0 < 301; omega)
  subst hy
  dsimp only
  rcases Nat.lt_or_ge i M.length with k | k
  · have hx : M[i]? = some M[i] := List.getElem?_eq_getElem k
    have htk : M.take (i + 1) = M.take i ++ [M[i]] := List.take_succ_eq_append_getElem k
    have hll : (M.take i).length = i := by rw [List.length_take]; omega
    generalize M[i] = m at *
    unfold S3_0
    rw [decide_eq_true (show (i : Int) < (M.length : Int) by omega), cond_true, getI_at hx, Option.bind_some, room_of (by rw [List.length_map, hll]; simp only [List.length_cons, List.length_nil]; omega) (by rw [List.length_map, hll]; simp only [List.length_cons, List.length_nil]; omega), Option.bind_some, wS (by omega)]
    refine .inl ⟨_, rfl, ⟨i + 1, by rw [htk, List.map_append]; rfl, by omega⟩, by show M.length - ((i + 1 : Nat) : Int).toNat < M.length - (i : Int).toNat; omega⟩
  · have : i = M.length := by omega
    subst this
    rw [List.take_length]
    exact .inr hend
theorem departures_law (l : List TTaxiStand) (d : List TTaxiAsk) (class_ slack_ : Int) : g3 301 l d class_ slack_ = some true := by
  unfold g3 g4
  obtain ⟨c, ec, c0, c1⟩ := pick_val 301 class_ 4 (by decide)
  obtain ⟨s, es, s0, s1⟩ := pick_val 301 slack_ 900 (by decide)
  have estd : g7 301 = some std := rfl
  rw [Option.bind_some, Bool.not_true, cond_false, ec, Option.bind_some, es, Option.bind_some, estd, Option.bind_some, wgap_val c0 c1, Option.bind_some]
  dsimp only
  rw [show ((0 : Int) != 0) = false from rfl, cond_false]
  obtain ⟨⟨M, e⟩, hq, hM⟩ := queue_tot 301 (by decide) l d (gp c)
  obtain ⟨⟨K, e'⟩, hr, hK⟩ := late_tot 301 (by decide) l d (gp c) s M e hq (fun he => by
    rcases hM with ⟨h, -⟩ | ⟨-, h1, h2, h3⟩
    · exact absurd he h
    · exact ⟨h3, by dsimp only at h1; omega, by dsimp only at h1; omega⟩)
  rw [hr, Option.bind_some]
  dsimp only at hK ⊢
  rcases hK with ⟨h, rfl⟩ | ⟨rfl, rfl, -, rfl⟩
  · rw [bne_iff_ne.2 h, cond_true]; rfl
  rw [show ((0 : Int) != 0) = false from rfl, cond_false]
  rcases hM with ⟨h, -⟩ | ⟨-, hl, hl2, ok⟩
  · exact absurd rfl h
  dsimp only at hl ok
  have hlen : (M.map (push s)).length = M.length := List.length_map _
  have hlv : (M.map (push s)).map (·.Leave) = M.map (·.Leave) := by
    rw [List.map_map]
    refine List.map_congr_left fun m hm => ?_
    obtain ⟨j, hj⟩ := List.getElem?_of_mem hm
    exact (push_ok s m s0 (ok.each j m hj).2.2.2.1).2.1
  have hts : ∀ t ∈ M.map (·.Leave), 0 ≤ t ∧ t ≤ 200000 := fun t ht => by
    obtain ⟨m, hm, rfl⟩ := List.mem_map.1 ht
    obtain ⟨j, hj⟩ := List.getElem?_of_mem hm
    have := ok.each j m hj
    omega
  have hgp := gp_pos c
  have hsp : Spaced (gp c) (M.map (·.Leave)) := by
    have step : ∀ (k i : Nat) (p m : TTaxiMove), M[i]? = some p → M[i + k + 1]? = some m → p.Leave + gp c ≤ m.Leave := by
      intro k
      induction k with
      | zero => intro i p m hp hm; exact ok.gaps i p m hp hm
      | succ k ih =>
        intro i p m hp hm
        have hlt := some_lt hm
        have hq' : M[i + k + 1]? = some M[i + k + 1] := List.getElem?_eq_getElem (by omega)
        have q1 := ih i p _ hp hq'
        have q2 := ok.gaps (i + k + 1) _ m hq' (by rw [show i + k + 1 + 1 = i + (k + 1) + 1 by omega]; exact hm)
        omega
    unfold Spaced
    rw [List.pairwise_map, List.pairwise_iff_getElem]
    intro i j hi hj hij
    exact step (j - i - 1) i _ _ (List.getElem?_eq_getElem hi) (by rw [show i + (j - i - 1) + 1 = j by omega]; exact List.getElem?_eq_getElem hj)
  have ei := insert_val c0 c1 (M.map (·.Leave)) (by rw [List.length_map]; omega) hts hsp
  have hready : ((M.map (push s)).map fun m => (⟨m.Leave, c⟩ : TRunwayReady)) = ((M.map (·.Leave)).map fun t => (⟨t, c⟩ : TRunwayReady)) := by
    rw [← hlv]
    generalize M.map (push s) = K
    rw [List.map_map]; rfl
  refine ready_loop (α := Unit) c 0 (M.map (push s)) (by omega) ?_
  unfold S3_0
  rw [decide_eq_false (show ¬ ((M.map (push s)).length : Int) < ((M.map (push s)).length : Int) by omega), cond_false, estd, Option.bind_some, hready, ei, Option.bind_some]
  dsimp only
  rw [show ((0 : Int) != 0) = false from rfl, cond_false, List.length_map, List.length_map, hlen, bne_self_eq_false, cond_false]
  have fin : iterO (fun y : Int => S3_1 301 false (M.map (push s)) ((M.map (·.Leave)).map (mv c)) (M.length : Int) y) 301 0 = some true := by
    refine iterO_eq (fun y => ∃ i : Nat, y = (i : Int) ∧ i ≤ M.length) true (fun y => M.length - y.toNat) (fun y ⟨i, hy, hi⟩ => ?_) 301 0 ⟨0, rfl, by omega⟩ (by show M.length - 0 < 301; omega)
    subst hy
    unfold S3_1
    rcases Nat.lt_or_ge i M.length with k | k
    · have hx : M[i]? = some M[i] := List.getElem?_eq_getElem k
      have hb := ok.each i _ hx
      generalize M[i] = m at *
      have pk := push_ok s m s0 hb.2.2.2.1
      have k1 : ((M.map (·.Leave)).map (mv c))[i]? = some ⟨m.Leave, c, true, 0⟩ := by rw [List.getElem?_map, List.getElem?_map, hx]; rfl
      have k2 : (M.map (push s))[i]? = some (push s m) := by rw [List.getElem?_map, hx]; rfl
      rw [decide_eq_true (show (i : Int) < (M.length : Int) by omega), cond_true, getI_at k1, Option.bind_some, getI_at k2]
      simp only [Option.bind_some]
      rw [pk.2.1, bne_self_eq_false, cond_false, Bool.not_true, cond_false, wrap64 (z := (push s m).Hold - (push s m).Push) (by omega) (by omega), decide_eq_false (by omega), cond_false, wS (by omega)]
      exact .inl ⟨_, rfl, ⟨i + 1, rfl, by omega⟩, by omega⟩
    · rw [decide_eq_false (show ¬ (i : Int) < (M.length : Int) by omega), cond_false]
      exact .inr rfl
  rw [fin]
  rfl
end Go.Proofs.YtbnnndfcaehlpaaGreatDoor
