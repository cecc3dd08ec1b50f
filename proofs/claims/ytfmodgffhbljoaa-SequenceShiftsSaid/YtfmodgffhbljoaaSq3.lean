/- The best order as a fold over all orders. -/
import Derived.Test.YtfmodgffhbljoaaSq2
set_option linter.unusedVariables false
set_option linter.unusedSimpArgs false
namespace Go.Proofs.Ytfmodgffhbljoaa

def candO (l : List TSequenceArrival) (t : TWakeTable) (nat : List Int) (most : Int) (o : List Int) : Option (List Int × Int × Int) :=
  if (tmG l t o none []).2 = false then none else if shF nat 0 o 0 > most then none else
    (tmG l t o none []).1.getLast?.bind fun e => (sumT l o (tmG l t o none []).1 0).bind fun z => some ((tmG l t o none []).1, e, z)
def visP (c : List Int → Option (List Int × Int × Int)) (s : BestS) (o : List Int) : BestS := match c o with
  | none => s
  | some (x, e, z) => match s with
    | none => some (o, x, e, z)
    | some (b, a, e0, z0) => if e < e0 ∨ (e = e0 ∧ z < z0) then some (o, x, e, z) else some (b, a, e0, z0)
theorem sumT_tot {l : List TSequenceArrival} (hl : ArrOk l) : ∀ (o x : List Int) (s : Int), x.length = o.length → (∀ k ∈ o, 0 ≤ k ∧ k < (l.length : Int)) → ∃ z, sumT l o x s = some z
  | [], x, s, _, _ => ⟨s, by unfold sumT; rfl⟩
  | k :: o, [], s, h, _ => by simp at h
  | k :: o, y :: x, s, h, hr => by
    obtain ⟨a, ha, -⟩ := arr_at hl (hr k (by simp)).1 (hr k (by simp)).2
    unfold sumT
    rw [ha]
    exact sumT_tot hl o x _ (by simpa using h) (fun q hq => hr q (by simp [hq]))
theorem getLast_some {x : List Int} (h : x ≠ []) : ∃ e, x.getLast? = some e := by
  rw [List.getLast?_eq_getElem?]
  cases x with
  | nil => exact absurd rfl h
  | cons a x => exact ⟨_, List.getElem?_eq_getElem (by simp)⟩
theorem visB_eq (n : Nat) (hn : 100 < n) {l : List TSequenceArrival} (hl : ArrOk l) {t : TWakeTable} (ht : TabOk t) {nat : List Int} (hnat : nat.length = l.length) (most : Int) (hne : l ≠ []) {o : List Int} (ho : OrdV l.length o) (s : BestS) :
    visB n l t nat most s o = some (visP (candO l t nat most) s o) := by
  have hlen := hl.len
  have hol := ho.1
  have hpos : 0 < l.length := List.length_pos_iff.2 hne
  unfold visB visP candO
  rw [times_eq n hn l hl o (by omega) ho.2.1 t ht]
  simp only [Option.bind_some]
  have hlt := tmG_len l t o none []
  generalize tmG l t o none [] = r at hlt ⊢
  obtain ⟨x, q⟩ := r
  cases q with
  | false => rfl
  | true =>
    have hxl : x.length = o.length := by simpa using hlt rfl
    simp only [Bool.not_true, cond_false, Bool.true_eq_false, if_false]
    rw [shift_eq n hn nat o (by omega) (by omega)]
    simp only [Option.bind_some]
    by_cases hd : shF nat 0 o 0 > most
    · rw [decide_eq_true hd, cond_true, if_pos hd]
    · rw [decide_eq_false hd, cond_false, if_neg hd]
      obtain ⟨e, he⟩ := getLast_some (x := x) (by intro h; rw [h] at hxl; simp at hxl; omega)
      obtain ⟨z, hz⟩ := sumT_tot hl o x 0 hxl ho.2.1
      rw [he, hz]
      simp only [Option.bind_some]
      cases s with
      | none => rfl
      | some s =>
        obtain ⟨b, a, e0, z0⟩ := s
        simp only
        split <;> rfl
theorem foldlM_val {α σ : Type} {f : σ → α → Option σ} {g : σ → α → σ} : ∀ {L : List α} {s : σ}, (∀ x ∈ L, ∀ s, f s x = some (g s x)) → L.foldlM f s = some (L.foldl g s)
  | [], s, _ => rfl
  | x :: L, s, h => by
    rw [List.foldlM_cons, h x (by simp), List.foldl_cons]
    exact foldlM_val (fun y hy => h y (by simp [hy]))
theorem best_val (n : Nat) (hn : 100 < n) {l : List TSequenceArrival} (hl : ArrOk l) {t : TWakeTable} (ht : TabOk t) {nat : List Int} (hnat : nat.length = l.length) {most : Int} (m0 : 0 ≤ most) (m1 : most ≤ 8) (hne : l ≠ []) (h1 : g31 n l = some (nat, 0)) (h2 : g36 n t = some 0) :
    g29 n l t most = some (match (ords l.length l.length []).foldl (visP (candO l t nat most)) none with | none => ([], [], 8) | some (o, x, _, _) => (o, x, 0)) := by
  have hlen := hl.len
  have hpos : 0 < l.length := List.length_pos_iff.2 hne
  unfold g29
  rw [h1]
  simp only [Option.bind_some, bne_self_eq_false, cond_false]
  rw [h2]
  simp only [Option.bind_some, bne_self_eq_false, cond_false]
  rw [decide_eq_false (show ¬ most < 0 by omega), decide_eq_false (show ¬ most > 8 by omega), show (l.length == 0) = false from beq_eq_false_iff_ne.2 (by omega), cond_false, cond_false, cond_false, if_pos hlen, ordR_eq,
    foldlM_val (g := visP (candO l t nat most)) (fun o ho s => visB_eq n hn hl ht hnat most hne (ords_ok l.length l.length [] o (fun x hx => by simp at hx) (by simp) (by simp) ho) s)]
  simp only [Option.bind_some]
  cases (ords l.length l.length []).foldl (visP (candO l t nat most)) none with
  | none => rfl
  | some s => rfl
/- the best one of a list -/
theorem fold_le (c : List Int → Option (List Int × Int × Int)) : ∀ (L : List (List Int)) (s : BestS),
    (∀ b a e z, s = some (b, a, e, z) → ∃ b' a' e' z', L.foldl (visP c) s = some (b', a', e', z') ∧ e' ≤ e) ∧
    (∀ o ∈ L, ∀ x e z, c o = some (x, e, z) → ∃ b' a' e' z', L.foldl (visP c) s = some (b', a', e', z') ∧ e' ≤ e) ∧
    (∀ b a e z, L.foldl (visP c) s = some (b, a, e, z) → s = some (b, a, e, z) ∨ (b ∈ L ∧ c b = some (a, e, z)))
  | [], s => ⟨fun b a e z h => ⟨b, a, e, z, h, Int.le_refl _⟩, fun o ho => by simp at ho, fun b a e z h => .inl h⟩
  | p :: L, s => by
    obtain ⟨h1, h2, h3⟩ := fold_le c L (visP c s p)
    have key : ∀ b a e z, s = some (b, a, e, z) → ∃ b' a' e' z', visP c s p = some (b', a', e', z') ∧ e' ≤ e := by
      rintro b a e z rfl
      unfold visP
      cases c p with
      | none => exact ⟨b, a, e, z, rfl, Int.le_refl _⟩
      | some q =>
        obtain ⟨x, e1, z1⟩ := q
        simp only
        split
        · rename_i h; exact ⟨p, x, e1, z1, rfl, by omega⟩
        · exact ⟨b, a, e, z, rfl, Int.le_refl _⟩
    have keyp : ∀ x e z, c p = some (x, e, z) → ∃ b' a' e' z', visP c s p = some (b', a', e', z') ∧ e' ≤ e := by
      intro x e z h
      unfold visP
      rw [h]
      cases s with
      | none => exact ⟨p, x, e, z, rfl, Int.le_refl _⟩
      | some q =>
        obtain ⟨b, a, e1, z1⟩ := q
        simp only
        split
        · exact ⟨p, x, e, z, rfl, Int.le_refl _⟩
        · rename_i h; exact ⟨b, a, e1, z1, rfl, by omega⟩
    have go : ∀ {e : Int}, (∃ b' a' e' z', visP c s p = some (b', a', e', z') ∧ e' ≤ e) → ∃ b' a' e' z', (p :: L).foldl (visP c) s = some (b', a', e', z') ∧ e' ≤ e := by
      rintro e ⟨b', a', e', z', q1, q2⟩
      obtain ⟨b2, a2, e2, z2, q3, q4⟩ := h1 b' a' e' z' q1
      exact ⟨b2, a2, e2, z2, q3, by omega⟩
    refine ⟨fun b a e z h => go (key b a e z h), fun o ho x e z h => ?_, fun b a e z h => ?_⟩
    · rcases List.mem_cons.1 ho with rfl | ho
      · exact go (keyp x e z h)
      · exact h2 o ho x e z h
    · rcases h3 b a e z h with q | ⟨q1, q2⟩
      · unfold visP at q
        cases hc : c p with
        | none => rw [hc] at q; exact .inl q
        | some r =>
          obtain ⟨x, e1, z1⟩ := r
          rw [hc] at q
          cases s with
          | none =>
            simp only [Option.some.injEq, Prod.mk.injEq] at q
            obtain ⟨rfl, rfl, rfl, rfl⟩ := q
            exact .inr ⟨by simp, hc⟩
          | some r2 =>
            obtain ⟨b2, a2, e2, z2⟩ := r2
            simp only at q
            split at q
            · simp only [Option.some.injEq, Prod.mk.injEq] at q
              obtain ⟨rfl, rfl, rfl, rfl⟩ := q
              exact .inr ⟨by simp, hc⟩
            · exact .inl q
      · exact .inr ⟨by simp [q1], q2⟩
theorem cand_facts {l : List TSequenceArrival} {t : TWakeTable} {nat : List Int} {most : Int} {o x : List Int} {e z : Int} (h : candO l t nat most o = some (x, e, z)) : tmG l t o none [] = (x, true) ∧ shF nat 0 o 0 ≤ most ∧ x.getLast? = some e ∧ x.length = o.length ∧ sumT l o x 0 = some z := by
  unfold candO at h
  have hlt := tmG_len l t o none []
  generalize tmG l t o none [] = r at h hlt
  obtain ⟨y, q⟩ := r
  cases q with
  | false => simp at h
  | true =>
    simp only [Bool.true_eq_false, if_false] at h
    split at h
    · cases h
    · rename_i hd
      obtain ⟨e', he, h⟩ := Option.bind_eq_some_iff.1 h
      obtain ⟨z', hz, h⟩ := Option.bind_eq_some_iff.1 h
      simp only [Option.some.injEq, Prod.mk.injEq] at h
      obtain ⟨rfl, rfl, rfl⟩ := h
      exact ⟨rfl, by omega, he, by simpa using hlt rfl, hz⟩
theorem cand_mono {l : List TSequenceArrival} {t : TWakeTable} {nat : List Int} {m m' : Int} (hm : m ≤ m') {o : List Int} {c : List Int × Int × Int} (h : candO l t nat m o = some c) : candO l t nat m' o = some c := by
  unfold candO at h ⊢
  split at h
  · cases h
  · rename_i h1
    rw [if_neg h1]
    split at h
    · cases h
    · rename_i h2
      rw [if_neg (by omega)]
      exact h
theorem last_at {x : List Int} {e : Int} (h : x.getLast? = some e) (hb : x.length ≤ 1000) : getI x (IntKind.wrap .i64 ((x.length : Int) - 1)) = some e := by
  rw [List.getLast?_eq_getElem?] at h
  have hlt := some_lt h
  rw [wrap64 (by omega) (by omega), show (x.length : Int) - 1 = ((x.length - 1 : Nat) : Int) by omega, getI_nat]
  exact h
theorem pick_tot (n : Nat) (a : Int) (m : Nat) (h0 : 0 < m) (h1 : m ≤ 1000000) : ∃ p : Nat, g15 n a (m : Int) = some (p : Int) ∧ p < m := by
  unfold g15
  have hm : IntKind.wrap .u64 (m : Int) = (m : Int) := by simp [IntKind.wrap, IntKind.signed, IntKind.bits]; omega
  have ha : 0 ≤ IntKind.wrap .u64 a := by simp [IntKind.wrap, IntKind.signed, IntKind.bits]; omega
  generalize IntKind.wrap .u64 a = b at ha
  have ht : Int.tmod b (m : Int) = ((b.toNat % m : Nat) : Int) := by
    obtain ⟨q, rfl⟩ := Int.eq_ofNat_of_zero_le ha
    rw [Int.tmod_eq_emod_of_nonneg ha, Int.toNat_natCast]; simp
  have hlt : b.toNat % m < m := Nat.mod_lt _ h0
  refine ⟨b.toNat % m, ?_, hlt⟩
  rw [hm]
  unfold modO
  rw [ht]
  have : ¬ ((m : Int) = 0) := by omega
  simp only [this, if_false, decide_false, cond_false, Option.bind_some]
  rw [wrap64 (by omega) (by omega)]
end Go.Proofs.Ytfmodgffhbljoaa
