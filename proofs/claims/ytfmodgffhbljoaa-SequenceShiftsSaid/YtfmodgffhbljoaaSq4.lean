/- More shifting never makes the last landing later, and the natural order is never better: the law. -/
import Derived.Test.YtfmodgffhbljoaaSq3
set_option linter.unusedVariables false
set_option linter.unusedSimpArgs false
namespace Go.Proofs.Ytfmodgffhbljoaa

theorem best_err {n : Nat} {l : List TSequenceArrival} {t : TWakeTable} {z : Int} (hz : z ≠ 0) (h : (g50 n l = some z) ∨ (∃ nat, g31 n l = some (nat, 0)) ∧ g36 n t = some z) (most : Int) : g29 n l t most = some ([], [], z) := by
  unfold g29
  rcases h with h | ⟨⟨nat, h1⟩, h⟩
  · have : g31 n l = some ([], z) := by
      unfold g31
      rw [h]
      simp only [Option.bind_some]
      rw [bne_iff_ne.2 hz]; rfl
    rw [this]
    simp only [Option.bind_some]
    rw [bne_iff_ne.2 hz]; rfl
  · rw [h1]
    simp only [Option.bind_some, bne_self_eq_false, cond_false]
    rw [h]
    simp only [Option.bind_some]
    rw [bne_iff_ne.2 hz]; rfl
theorem min_pick (p q : Nat) : (if (q : Int) < (p : Int) then (q : Int) else (p : Int)) = ((min p q : Nat) : Int) ∧ (if (q : Int) > (p : Int) then (q : Int) else (p : Int)) = ((max p q : Nat) : Int) := by
  constructor
  · split <;> omega
  · split <;> omega
set_option maxHeartbeats 1000000 in
theorem gains_law (n : Nat) (hn : 300 < n) (l : List TSequenceArrival) (t : TWakeTable) (a b : Int) : g8 n l t a b = some true := by
  unfold g8 g28
  simp only [Option.bind_some, Bool.not_true, cond_false]
  by_cases h6 : (l.length : Int) > 6
  · rw [decide_eq_true h6]; rfl
  rw [decide_eq_false h6, cond_false]
  obtain ⟨p, hp, hp9⟩ := pick_tot n a 9 (by omega) (by omega)
  obtain ⟨q, hq, hq9⟩ := pick_tot n b 9 (by omega) (by omega)
  have hp : g15 n a 9 = some (p : Int) := hp
  have hq : g15 n b 9 = some (q : Int) := hq
  rw [hp, hq]
  simp only [Option.bind_some]
  rw [(min_pick p q).1, (min_pick p q).2]
  have hlo : min p q ≤ max p q := by omega
  have hhi : max p q ≤ 8 := by omega
  generalize min p q = lo at hlo ⊢
  generalize max p q = hi at hlo hhi ⊢
  have e0 : IntKind.wrap .i64 ((([] : List Int).length : Int) + (([] : List Int).length : Int)) = 0 := by decide
  obtain ⟨z, hz, hz0⟩ := arr_tot n (by omega) l
  by_cases h0 : ¬ z = 0
  · rw [best_err h0 (.inl hz), best_err h0 (.inl hz)]
    simp only [Option.bind_some]
    rw [bne_iff_ne.2 h0, cond_true, e0]; rfl
  obtain rfl : z = 0 := Decidable.of_not_not h0
  have hl := hz0 rfl
  obtain ⟨nat, hnat, hnl⟩ := nat_tot n (by omega) l hl hz
  obtain ⟨w, hw, hw0⟩ := tab_tot n (by omega) t
  by_cases h1 : ¬ w = 0
  · rw [best_err h1 (.inr ⟨⟨nat, hnat⟩, hw⟩), best_err h1 (.inr ⟨⟨nat, hnat⟩, hw⟩)]
    simp only [Option.bind_some]
    rw [bne_iff_ne.2 h1, cond_true, e0]; rfl
  obtain rfl : w = 0 := Decidable.of_not_not h1
  have ht := hw0 rfl
  by_cases hne : l = []
  · subst hne
    have hb : ∀ m : Nat, m ≤ 8 → g29 n [] t (m : Int) = some ([], [], 0) := fun m hm => by
      unfold g29
      rw [hnat]
      simp only [Option.bind_some, bne_self_eq_false, cond_false]
      rw [hw]
      simp only [Option.bind_some, bne_self_eq_false, cond_false]
      rw [decide_eq_false (show ¬ (m : Int) < 0 by omega), decide_eq_false (show ¬ (m : Int) > 8 by omega)]; rfl
    rw [hb lo (by omega), hb hi hhi]
    simp only [Option.bind_some]
    rw [e0]; rfl
  have hlen := hl.len
  have hpos : 0 < l.length := List.length_pos_iff.2 hne
  have B := fun (m : Nat) (hm : m ≤ 8) => best_val n (by omega) hl ht hnl (most := (m : Int)) (by omega) (by omega) hne hnat hw
  have F := fun (m : Nat) => fold_le (candO l t nat (m : Int)) (ords l.length l.length []) none
  have OK := fun (o : List Int) (ho : o ∈ ords l.length l.length []) => ords_ok l.length l.length [] o (fun x hx => by simp at hx) (by simp) (by simp) ho
  rw [B lo (by omega), B hi hhi]
  simp only [Option.bind_some]
  cases hlo2 : (ords l.length l.length []).foldl (visP (candO l t nat (lo : Int))) none with
  | none =>
    simp only
    rw [e0]; rfl
  | some s =>
    obtain ⟨o, x, e, zz⟩ := s
    obtain ⟨-, f2, f3⟩ := F lo
    rcases f3 o x e zz hlo2 with hc | ⟨ho, hc⟩
    · cases hc
    obtain ⟨hi1, hi2, hi3⟩ := F hi
    obtain ⟨o', x', e', zz', hhi2, hee⟩ := hi2 o ho x e zz (cand_mono (by omega) hc)
    rw [hhi2]
    rcases hi3 o' x' e' zz' hhi2 with hc' | ⟨ho', hc'⟩
    · cases hc'
    obtain ⟨c1, c2, c3, c4, -⟩ := cand_facts hc
    obtain ⟨d1, d2, d3, d4, -⟩ := cand_facts hc'
    have hov := OK o ho
    have hov' := OK o' ho'
    have hxl : x.length = l.length := by have := hov.1; omega
    have hxl' : x'.length = l.length := by have := hov'.1; omega
    simp only [bne_self_eq_false, cond_false]
    rw [show ((l.length : Int) == 0) = false from beq_eq_false_iff_ne.2 (by omega), cond_false]
    have hshift : g30 n l o = some (shF nat 0 o 0, 0) := by
      unfold g30
      rw [hnat]
      simp only [Option.bind_some, bne_self_eq_false, cond_false]
      obtain ⟨bq, hbq, hbi⟩ := order_eq n (by omega) o l.length (by omega) (by have := hov.1; omega) (by have := hov.1; omega)
      rw [hbq, hbi.2 hov]
      simp only [Option.bind_some, Bool.not_true, cond_false]
      rw [shift_eq n (by omega) nat o (by omega) (by have := hov.1; omega)]; rfl
    rw [hshift]
    simp only [Option.bind_some, bne_self_eq_false, cond_false]
    rw [decide_eq_false (show ¬ shF nat 0 o 0 > (lo : Int) by omega), hxl, hxl', bne_self_eq_false]
    simp only [cond_false]
    have g1 := last_at c3 (by omega)
    have g2 := last_at d3 (by omega)
    rw [hxl] at g1
    rw [hxl'] at g2
    rw [g1, g2]
    simp only [Option.bind_some]
    rw [decide_eq_false (show ¬ e' > e by omega), cond_false, hnat]
    simp only [Option.bind_some, beq_self_eq_true, cond_true]
    obtain ⟨bq, hbq, hbi⟩ := order_eq n (by omega) nat l.length (by omega) (by omega) (by omega)
    have htimes : g32 n l nat t = (if bq = true then (if (tmG l t nat none []).2 = true then some ((tmG l t nat none []).1, 0) else some ([], 8)) else some ([], 3)) := by
      unfold g32
      rw [hz]
      simp only [Option.bind_some, bne_self_eq_false, cond_false]
      rw [hw]
      simp only [Option.bind_some, bne_self_eq_false, cond_false]
      rw [hbq]
      cases bq with
      | false => rfl
      | true =>
        simp only [Option.bind_some, Bool.not_true, cond_false, if_true]
        rw [times_eq n (by omega) l hl nat (by omega) (hbi.1 rfl).2.1 t ht]
        simp only [Option.bind_some]
        cases (tmG l t nat none []).2 <;> rfl
    rw [htimes]
    cases bq with
    | false => rfl
    | true =>
      have hnv := hbi.1 rfl
      simp only [if_true]
      cases hq2 : (tmG l t nat none []).2 with
      | false => rfl
      | true =>
        simp only [if_true, Option.bind_some, bne_self_eq_false, cond_false]
        have hyl := tmG_len l t nat none [] hq2
        have hyl : (tmG l t nat none []).1.length = l.length := by simpa [hnl] using hyl
        obtain ⟨ey, hey⟩ := getLast_some (x := (tmG l t nat none []).1) (by intro h; rw [h] at hyl; simp at hyl; omega)
        have g3 := last_at hey (by omega)
        rw [hyl] at g3
        rw [hyl, beq_self_eq_true, cond_true, g3]
        simp only [Option.bind_some]
        obtain ⟨zy, hzy⟩ := sumT_tot hl nat (tmG l t nat none []).1 0 (by omega) hnv.2.1
        have hcn : candO l t nat (lo : Int) nat = some ((tmG l t nat none []).1, ey, zy) := by
          unfold candO
          rw [if_neg (by rw [hq2]; decide), if_neg (by
            have := shF_self hnv.2.2 nat 0 rfl
            have e : shF nat ((0 : Nat) : Int) nat 0 = shF nat 0 nat 0 := rfl
            rw [e] at this
            omega), hey, hzy]; rfl
        obtain ⟨b2, a2, e2, z2, k1, k2⟩ := f2 nat (mem_ords hnv l.length [] rfl (by simp)) _ _ _ hcn
        rw [hlo2] at k1
        cases k1
        rw [decide_eq_true k2]
end Go.Proofs.Ytfmodgffhbljoaa
