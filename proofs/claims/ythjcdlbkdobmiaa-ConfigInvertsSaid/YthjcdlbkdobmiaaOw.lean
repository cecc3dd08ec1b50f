/- Delete on a row of the run's own, in worlds: the cells are carried as they are. -/
import Derived.Test.YthjcdlbkdobmiaaPO
import Derived.Test.YthjcdlbkdobmiaaKn
set_option linter.unusedVariables false
set_option linter.unusedSimpArgs false
namespace Go.Proofs.Ythjcdlbkdobmiaa
open Go.RowKit

theorem sl_val {c : Cx} {id esz n k : Nat} {ex : Bool} {v : Value} (h : VRel c (.sl id 0 esz n k ex) v) : ∃ cap, v = .slice (some ⟨c.f id, 0, none⟩) n cap ∧ n ≤ cap ∧ cap ≤ maxLen := by
  cases h with
  | sl ha hb hs hn hc he hm => exact ⟨_, rfl, by omega, hm⟩
theorem del_world {P : Program} {gl : Nat → Option (List AV)} {α : Type} {E : En α} {f : FuncId} {ty by_ : Nat} {L Y : List (Raw E)} {i j : Int} (hG : ∀ c, GlobOk gl c)
    (run : ∀ {look : Nat → Option ABlk}, look 0 = ownB (EnO E) ty L → PureD P gl look 1 f [ownV (EnO E) 0 L, intA i, intA j] (blkW (EnO E) 1 Y) [(1, some ⟨encs (EnO E) Y, ty⟩), (0, none)])
    (hne : L ≠ []) (hsc : ∀ u ∈ rawL L, isSc u = true) {w : World} {base : Nat} {v : Value} (hown : w.ownsRow base ty E.size v L.length (rawL L)) :
    Calls P f #[v, .int .i64 i, .int .i64 j] w fun e w' => ∃ b cap arr rest, e = .returned (.slice (some ⟨b, 0, none⟩) Y.length cap) ∧ w'.heap[b]? = some (.cells arr ty) ∧ arr.toList = rawL Y ++ rest ∧ Y.length ≤ cap ∧ cap ≤ maxLen ∧ (v.ownBlock = some b ∨ w.heap.size ≤ b) ∧ Kno (fun k => v.ownBlock = some k) w w' := by
  rcases hown.2 with ⟨q1, q2⟩ | ⟨g, cap, cur, rfl, q2, q3, q4, q5, q6, q7⟩
  · exact absurd (List.eq_nil_of_length_eq_zero q2) hne
  have hlt := heap_lt q3
  obtain ⟨c, hc⟩ : ∃ c : Cx, c = ⟨w, fun _ => g, fun j => j = 0, fun j => if j = 0 then some ⟨encs (EnO E) L, ty⟩ else none, fun _ => False⟩ := ⟨_, rfl⟩
  have cw : c.w = w := by rw [hc]
  have cf : ∀ j, c.f j = g := fun j => by rw [hc]
  have cal : ∀ j, c.al j ↔ j = 0 := fun j => by rw [hc]
  have cM : ∀ j, c.M j = if j = 0 then some ⟨encs (EnO E) L, ty⟩ else none := fun j => by rw [hc]
  have cno : ∀ j, ¬ c.no j := fun j => by rw [hc]; exact fun h => h
  have cown : ∀ b, c.own b ↔ b = g := fun b => by
    constructor
    · rintro ⟨k, blk, h1, h2⟩; rw [cf] at h2; exact h2.symm
    · rintro rfl; exact ⟨0, _, by rw [cM, if_pos rfl], cf 0⟩
  have hM0 : ∀ k blk, c.M k = some blk → k = 0 ∧ blk = ⟨encs (EnO E) L, ty⟩ := fun k blk h => by
    rw [cM] at h
    by_cases e : k = 0
    · rw [if_pos e] at h; exact ⟨e, (Option.some.inj h).symm⟩
    · rw [if_neg e] at h; cases h
  have hraw : Rels c (encs (EnO E) L) (rawL L) := by
    rw [encs_raw]
    have : ∀ us : List Value, (∀ u ∈ us, isSc u = true) → Rels c (us.map AV.sc) us := by
      intro us
      induction us with
      | nil => intro _; exact .nil
      | cons u us ih => intro h; exact .cons (.sc u (h u (by simp))) (ih (fun x hx => h x (by simp [hx])))
    exact this _ hsc
  have hxs := hown.1
  have g0 : Good g c := by
    refine ⟨by rw [cw]; omega, fun k blk h => ?_, fun k blk h => ?_, fun b h => absurd h (cno b), fun k k' blk blk' h h' _ => ?_⟩
    · rw [cf]; exact ⟨Nat.le_refl _, (cal k).2 (hM0 k blk h).1⟩
    · obtain ⟨rfl, rfl⟩ := hM0 k blk h
      refine ⟨cur, rawL L, cur.toList.drop (L.length * E.size), by rw [cf, cw]; exact q3, by rw [← q7, List.take_append_drop], hraw⟩
    · rw [(hM0 k blk h).1, (hM0 k' blk' h').1]
  have hv : VRel c (ownV (EnO E) 0 L) (.slice (some ⟨g, 0, none⟩) L.length cap) := by
    rw [ownV_ne hne]
    have := VRel.sl (c := c) (id := 0) (off := 0) (esz := E.size) (n := L.length) (cap := L.length) (cap' := cap) (ex := false) (arr := cur) (T := ty) ((cal 0).2 rfl) (by rw [cf, cw]; exact q3) (by rw [q6]; omega) (Nat.le_refl _) q4 (fun h => by cases h) q5
    rw [cf] at this
    exact this
  have hcall := (run (look := fun j => if j = 0 then ownB (EnO E) ty L else none) (by simp)).2 g c [.slice (some ⟨g, 0, none⟩) L.length cap, .int .i64 i, .int .i64 j] g0 (hG c) (fun h => by have := (cal 1).1 h; omega) (fun k b h => by
    by_cases e : k = 0
    · simp only [if_pos e] at h
      rw [ownB_ne hne] at h
      rw [cM, if_pos e]; exact h
    · simp only [if_neg e] at h; cases h) (.cons hv (.cons (.sc _ rfl) (.cons (.sc _ rfl) .nil)))
  rw [cw] at hcall
  refine hcall.mono ?_
  rintro e w' ⟨v', c', rfl, rfl, r1, st, g2, kM, -, -⟩
  have hM1 : c'.M 1 = some ⟨encs (EnO E) Y, ty⟩ := by
    rw [kM]
    show (if 1 = 0 then none else if 1 = 1 then some (⟨encs (EnO E) Y, ty⟩ : ABlk) else c.M 1) = some (⟨encs (EnO E) Y, ty⟩ : ABlk)
    rfl
  obtain ⟨arr, vs, rest, k1, k2, k3⟩ := g2.blk 1 _ hM1
  have k3 : Rels c' (encs (EnO E) Y) vs := k3
  rw [encs_raw] at k3
  have hvs := scs_val k3
  subst hvs
  obtain ⟨cap', hv', hc1, hc2⟩ := sl_val r1
  refine ⟨c'.f 1, cap', arr, rest, by rw [hv'], k1, k2, hc1, hc2, ?_, ?_⟩
  · rcases Nat.lt_or_ge (c'.f 1) w.heap.size with q | q
    · left
      have := (cown _).1 (st.own (c'.f 1) (by rw [cw]; exact q) ⟨1, _, hM1, rfl⟩)
      rw [this]; rfl
    · exact .inr q
  · have s1 := st.os; have s2 := st.tape; have s3 := st.output; have s4 := st.size; have s6 := st.drawn
    rw [cw] at s1 s2 s3 s4 s6
    refine ⟨s1, s2, s3, s4, fun k hk hb => ?_, s6⟩
    have := st.blk k (by rw [cw]; exact hk) (fun h => hb (by rw [(cown k).1 h]; rfl))
    rwa [cw] at this
end Go.Proofs.Ythjcdlbkdobmiaa
