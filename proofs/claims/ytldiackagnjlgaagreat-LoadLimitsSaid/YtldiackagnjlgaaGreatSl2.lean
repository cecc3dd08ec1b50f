/- Loads: load.Peaks and load.Over are the plain lists. -/
import Derived.Test.YtldiackagnjlgaaGreatSl1
import Derived.Test.YtldiackagnjlgaaGreatScD
import Derived.Test.YtldiackagnjlgaaGreatScL
set_option linter.unusedVariables false
set_option linter.unusedSimpArgs false
namespace Go.Proofs.YtldiackagnjlgaaGreat


theorem rep_tabv (m : Nat) (v : Int) : List.replicate m v = tab m (fun _ => v) := by
  unfold tab
  apply List.ext_getElem?
  intro s
  by_cases h : s < m
  · simp [h]
  · rw [List.getElem?_eq_none (by simp; omega), List.getElem?_eq_none (by simp; omega)]
theorem span_cases (n : Nat) (s : TSpan) : (g26 n s = some 0 ∧ 0 ≤ s.From ∧ s.From < s.To ∧ s.To ≤ 200001 ∧ s.To - s.From ≤ 2000) ∨ ∃ z, z ≠ 0 ∧ g26 n s = some z := by
  unfold g26
  by_cases h1 : s.From < 0
  · rw [decide_eq_true h1, cond_true]; exact .inr ⟨12, by decide, rfl⟩
  rw [decide_eq_false h1, cond_false]
  by_cases h2 : s.To > 200001
  · rw [decide_eq_true h2, cond_true]; exact .inr ⟨12, by decide, rfl⟩
  rw [decide_eq_false h2, cond_false]
  by_cases h3 : s.From ≥ s.To
  · rw [decide_eq_true h3, cond_true]; exact .inr ⟨12, by decide, rfl⟩
  rw [decide_eq_false h3, cond_false, wrap64 (by omega) (by omega)]
  by_cases h4 : s.To - s.From > 2000
  · rw [decide_eq_true h4, cond_true]; exact .inr ⟨2, by decide, rfl⟩
  rw [decide_eq_false h4, cond_false]
  exact .inl ⟨rfl, by omega, by omega, by omega, by omega⟩
theorem pk_inner (n : Nat) (hn : 64 < n) (l : List TSector) (ts : List (List TTubeNode)) (c8 F To : Int) (m : Nat) (hm : m ≤ 12) (c : Int → Nat → Int) (t : Int) (s : (Nat → Int) × (Nat → Int)) :
    iterO (fun y : Int × List Int × List Int => S11_0_0 n l ts c8 t (tab m (c t)) (m : Int) F To y.1 y.2.1 y.2.2) n ((0), tab m s.1, tab m s.2) = some (.inl (IntKind.wrap .i64 (t + 1), tab m (pkU c t m s).1, tab m (pkU c t m s).2)) := by
  refine iter_seq m (fun w => (tab m (pkU c t w s).1, tab m (pkU c t w s).2)) _ ?_ ?_ n (by omega) _ (by rw [pkU_zero])
  · intro w hw
    show S11_0_0 n l ts c8 t (tab m (c t)) (m : Int) F To (w : Int) (tab m (pkU c t w s).1) (tab m (pkU c t w s).2) = _
    unfold S11_0_0
    have e1 : (pkU c t w s).1 w = s.1 w := by unfold pkU; simp
    rw [decide_eq_true (show (w : Int) < _ by omega), cond_true, getI_at (tab_at hw), Option.bind_some, getI_at (tab_at hw), Option.bind_some, Option.bind_some, Option.bind_some, getI_at (tab_at hw), Option.bind_some, e1, wS (by omega), Int.toNat_natCast]
    by_cases h : c t w > s.1 w
    · rw [decide_eq_true h, cond_true, tab_set _ _ (pkU c t (w + 1) s).1 _ _ (fun i => ?_), tab_set _ _ (pkU c t (w + 1) s).2 _ _ (fun i => ?_)]
      · unfold pkU
        simp only
        by_cases e : i = w
        · subst e; rw [if_pos rfl, if_pos ⟨by omega, h⟩]
        · rw [if_neg e]
          by_cases q : i < w ∧ c t i > s.1 i
          · rw [if_pos q, if_pos ⟨by omega, q.2⟩]
          · rw [if_neg q, if_neg (fun k => q ⟨by omega, k.2⟩)]
      · unfold pkU
        simp only
        by_cases e : i = w
        · subst e; rw [if_pos rfl, if_pos ⟨by omega, h⟩]
        · rw [if_neg e]
          by_cases q : i < w ∧ c t i > s.1 i
          · rw [if_pos q, if_pos ⟨by omega, q.2⟩]
          · rw [if_neg q, if_neg (fun k => q ⟨by omega, k.2⟩)]
    · rw [decide_eq_false h, cond_false]
      have e2 : pkU c t (w + 1) s = pkU c t w s := by
        have key : ∀ i, (i < w + 1 ∧ c t i > s.1 i) ↔ (i < w ∧ c t i > s.1 i) := fun i => by
          constructor
          · rintro ⟨k1, k2⟩
            refine ⟨?_, k2⟩
            by_cases e : i = w
            · subst e; exact absurd k2 h
            · omega
          · rintro ⟨k1, k2⟩; exact ⟨by omega, k2⟩
        unfold pkU
        simp only [key]
      rw [e2]
  · show S11_0_0 n l ts c8 t (tab m (c t)) (m : Int) F To (m : Int) _ _ = _
    unfold S11_0_0
    rw [decide_eq_false (Int.lt_irrefl _), cond_false]
theorem peaks_cases (n : Nat) (hn : 30000 < n) (l : List TSector) (ts : List (List TTubeNode)) (s : TSpan) : (∃ z, z ≠ 0 ∧ g11 n l ts s = some ([], [], z)) ∨ (g22 n l ts = some 0 ∧ g26 n s = some 0 ∧ SecOk l ∧ ts.length ≤ 24 ∧ (∀ t ∈ ts, g21 n t = some 0 ∧ TubeOk t) ∧ (0 ≤ s.From ∧ s.From < s.To ∧ s.To ≤ 200001 ∧ s.To - s.From ≤ 2000) ∧
    g11 n l ts s = some (tab l.length (pk (fun t i => ccs n l t ts i) l.length s.From (s.To - s.From).toNat).1, tab l.length (pk (fun t i => ccs n l t ts i) l.length s.From (s.To - s.From).toNat).2, 0)) := by
  obtain ⟨z, hz, kz⟩ := load_check n (by omega) l ts
  unfold g11
  rw [hz, Option.bind_some]
  by_cases z0 : z = 0
  case neg => rw [bne_iff_ne.2 z0, cond_true]; exact .inl ⟨z, z0, rfl⟩
  obtain ⟨hl, hts, hok⟩ := kz z0
  have hlen := hl.len
  rw [z0, show ((0 : Int) != 0) = false from rfl, cond_false]
  rcases span_cases n s with ⟨hs, h1, h2, h3, h4⟩ | ⟨y, hy, hs⟩
  case inr => rw [hs, Option.bind_some, bne_iff_ne.2 hy, cond_true]; exact .inl ⟨y, hy, rfl⟩
  rw [hs, Option.bind_some, show ((0 : Int) != 0) = false from rfl, cond_false]
  refine .inr ⟨rfl, rfl, hl, hts, hok, ⟨h1, h2, h3, h4⟩, ?_⟩
  have hm : makeO (l.length : Int) 8 = some l.length := by
    unfold makeO
    rw [if_pos ⟨by omega, by omega, by omega⟩]; simp
  have hr : repO ([s.From] : List Int) (l.length : Int) = some (List.replicate l.length s.From) := by
    unfold repO
    simp only
    rw [if_pos ⟨by omega, by omega⟩, Int.toNat_natCast]
  rw [hm, Option.bind_some, hr, Option.bind_some, rep_tabv, rep_tabv]
  refine iter_off s.From (s.To - s.From).toNat (fun k => (tab l.length (pk (fun t i => ccs n l t ts i) l.length s.From k).1, tab l.length (pk (fun t i => ccs n l t ts i) l.length s.From k).2)) _ ?_ ?_ n (by omega) _ rfl
  · intro k hk
    show S11_0 n l ts (0) s.From s.To (s.From + (k : Int)) (tab l.length (pk (fun t i => ccs n l t ts i) l.length s.From k).1) (tab l.length (pk (fun t i => ccs n l t ts i) l.length s.From k).2) = _
    unfold S11_0
    rw [decide_eq_true (show s.From + (k : Int) < s.To by omega), cond_true, count_full n (by omega) l hl ts hts hok, Option.bind_some]
    simp only [tab_len]
    rw [pk_inner n (by omega) l ts 0 s.From s.To l.length (by omega) (fun t i => ccs n l t ts i) (s.From + (k : Int)), wrap64 (by omega) (by omega), show s.From + (k : Int) + 1 = s.From + ((k + 1 : Nat) : Int) by omega]
    rfl
  · show S11_0 n l ts (0) s.From s.To (s.From + ((s.To - s.From).toNat : Int)) _ _ = _
    unfold S11_0
    rw [decide_eq_false (show ¬ s.From + ((s.To - s.From).toNat : Int) < s.To by omega), cond_false]
theorem ov_inner (n : Nat) (hn : 64 < n) (l : List TSector) (ts : List (List TTubeNode)) (c9 F To : Int) (m : Nat) (hm : m ≤ 12) (c : Int → Nat → Int) (M : Nat → Int) (t : Int) (ht : t - F ≤ 2000) (s : List TLoadOver × (Nat → Int)) (ha : OvA F t 0 s) :
    iterO (fun y : Int × List TLoadOver × List Int => S12_0_0 n l ts (tab m M) c9 t (tab m (c t)) (m : Int) F To y.1 y.2.1 y.2.2) n ((0), s.1, tab m s.2) = some (.inl (IntKind.wrap .i64 (t + 1), (ovR c M t m s).1, tab m (ovR c M t m s).2)) := by
  refine iter_seq m (fun w => ((ovR c M t w s).1, tab m (ovR c M t w s).2)) _ ?_ ?_ n (by omega) _ rfl
  · intro w hw
    have hA := ovA_row c M F ha w
    show S12_0_0 n l ts (tab m M) c9 t (tab m (c t)) (m : Int) F To (w : Int) (ovR c M t w s).1 (tab m (ovR c M t w s).2) = some (.inl (((w + 1 : Nat) : Int), (ovS c M t w (ovR c M t w s)).1, tab m (ovS c M t w (ovR c M t w s)).2))
    generalize ovR c M t w s = u at hA
    obtain ⟨K, op⟩ := u
    obtain ⟨a1, a2⟩ := hA
    simp only at a1 a2
    unfold S12_0_0 ovS
    simp only
    rw [decide_eq_true (show (w : Int) < _ by omega), cond_true, getI_at (tab_at hw), Option.bind_some, getI_at (tab_at hw), Option.bind_some, getI_at (tab_at hw), wS (by omega), Int.toNat_natCast]
    simp only [Option.bind_some]
    by_cases h : c t w ≤ M w
    · rw [decide_eq_true h, cond_true, if_pos h, tab_set _ _ (fun j => if j = w then -1 else op j) _ _ (fun i => rfl)]
    · rw [decide_eq_false h, cond_false, if_neg h]
      by_cases ho : 0 ≤ op w
      · have hlt : op w < (K.length : Int) := by rcases a1 w with k | ⟨-, k⟩ <;> omega
        obtain ⟨j, hj⟩ : ∃ j : Nat, op w = (j : Int) := ⟨(op w).toNat, by omega⟩
        have hx : K[j]? = some K[j] := List.getElem?_eq_getElem (by omega)
        generalize K[j] = x at hx
        rw [decide_eq_true (show op w ≥ 0 by omega), cond_true, if_pos ho, hj, getI_at hx, Option.bind_some, Int.toNat_natCast, hx]
      · have hr : roomO (K.length + ([(⟨(w : Int), t, t⟩ : TLoadOver)] : List TLoadOver).length) 24 = some () := room_of (by rw [List.length_singleton]; omega) (by rw [List.length_singleton]; omega)
        rw [decide_eq_false (show ¬ op w ≥ 0 by omega), cond_false, if_neg ho, hr, Option.bind_some, tab_set _ _ (fun j => if j = w then (K.length : Int) else op j) _ _ (fun i => rfl)]
  · show S12_0_0 n l ts (tab m M) c9 t (tab m (c t)) (m : Int) F To (m : Int) _ _ = _
    unfold S12_0_0
    rw [decide_eq_false (Int.lt_irrefl _), cond_false]
theorem over_val (n : Nat) (hn : 30000 < n) (l : List TSector) (ts : List (List TTubeNode)) (s : TSpan) (hc : g22 n l ts = some 0) (hs : g26 n s = some 0) (hl : SecOk l) (hts : ts.length ≤ 24) (hok : ∀ t ∈ ts, g21 n t = some 0 ∧ TubeOk t) (hb : 0 ≤ s.From ∧ s.From < s.To ∧ s.To ≤ 200001 ∧ s.To - s.From ≤ 2000) (M : Nat → Int) (K : List TLoadOver)
    (hK : sortO (fun x y => g30 n x y) (ov (fun t i => ccs n l t ts i) M l.length s.From (s.To - s.From).toNat).1 = some K) :
    g12 n l ts (tab l.length M) s = some (K, 0) := by
  have hlen := hl.len
  obtain ⟨h1, h2, h3, h4⟩ := hb
  unfold g12
  have hr : repO ([(-1)] : List Int) (l.length : Int) = some (List.replicate l.length (-1)) := by
    unfold repO
    simp only
    rw [if_pos ⟨by omega, by omega⟩, Int.toNat_natCast]
  rw [hc, Option.bind_some, show ((0 : Int) != 0) = false from rfl, cond_false, tab_len, show ((l.length : Int) != (l.length : Int)) = false by simp, cond_false, hs, Option.bind_some, show ((0 : Int) != 0) = false from rfl, cond_false, hr, Option.bind_some, rep_tabv]
  refine iter_off s.From (s.To - s.From).toNat (fun k => ((ov (fun t i => ccs n l t ts i) M l.length s.From k).1, tab l.length (ov (fun t i => ccs n l t ts i) M l.length s.From k).2)) _ ?_ ?_ n (by omega) _ rfl
  · intro k hk
    show S12_0 n l ts (tab l.length M) (0) s.From s.To (s.From + (k : Int)) (ov (fun t i => ccs n l t ts i) M l.length s.From k).1 (tab l.length (ov (fun t i => ccs n l t ts i) M l.length s.From k).2) = _
    unfold S12_0
    rw [decide_eq_true (show s.From + (k : Int) < s.To by omega), cond_true, count_full n (by omega) l hl ts hts hok, Option.bind_some]
    simp only [tab_len]
    rw [ov_inner n (by omega) l ts 0 s.From s.To l.length (by omega) (fun t i => ccs n l t ts i) M (s.From + (k : Int)) (by omega) _ (ovA_all _ M l.length s.From (by omega) k), wrap64 (by omega) (by omega), show s.From + (k : Int) + 1 = s.From + ((k + 1 : Nat) : Int) by omega]
    rfl
  · show S12_0 n l ts (tab l.length M) (0) s.From s.To (s.From + ((s.To - s.From).toNat : Int)) _ _ = _
    unfold S12_0
    rw [decide_eq_false (show ¬ s.From + ((s.To - s.From).toNat : Int) < s.To by omega), cond_false]
    show (sortO (fun x y => g30 n x y) (ov (fun t i => ccs n l t ts i) M l.length s.From (s.To - s.From).toNat).1).bind _ = _
    rw [hK, Option.bind_some]
end Go.Proofs.YtldiackagnjlgaaGreat
