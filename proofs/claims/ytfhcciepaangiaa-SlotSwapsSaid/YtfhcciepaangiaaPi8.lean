/- Each operation does in a world what the plain evaluator says (fourth part). -/
import Derived.Test.YtfhcciepaangiaaPi7
import Derived.Laws.IdiomStrings
set_option linter.unusedVariables false
set_option linter.unusedSimpArgs false
namespace Go.Proofs.Ytfhcciepaangiaa
open Go.RowKit

section
variable {P : Program} {B n : Nat} {c : Cx} {ev : Operand → Value} {ρ : Operand → Option AV} {look : Nat → Option ABlk} {o : Oper}

/- bounds of a slice expression -/
def BV (d : Nat) : Option Value → Nat → Prop
  | none, k => k = d
  | some v, k => ∃ q z, v = .int q z ∧ 0 ≤ z ∧ k = z.toNat
theorem run_sliceBounds {isS : Bool} {len cap l h m : Nat} {lo hi mx : Option Value} (hlo : BV 0 lo l) (hhi : BV len hi h) (hmx : BV cap mx m) (h1 : l ≤ h) (h2 : h ≤ m) (h3 : m ≤ cap) (hx : (mx.isSome && hi.isNone) = false) (w : World) :
    (Instr.sliceBounds isS len cap lo hi mx).run P w = .ok (l, h, m) w := by
  have sb : ∀ (q : IntKind) (z : Int) (y : Nat) (cd : BoundsCode), 0 ≤ z → z.toNat ≤ y → (Instr.sliceBound (.int q z) y cd).run P w = .ok z.toNat w := by
    intro q z y cd hz hy
    have : z ≤ (y : Int) := by omega
    simp [Instr.sliceBound, asIntOf, hz, this]
  cases mx with
  | none =>
    simp only [BV] at hmx
    subst hmx
    cases hi with
    | none =>
      simp only [BV] at hhi
      subst hhi
      cases lo with
      | none => simp only [BV] at hlo; subst hlo; simp [Instr.sliceBounds]
      | some v => obtain ⟨q, z, rfl, hz, rfl⟩ := hlo; simp [Instr.sliceBounds, sb q z _ _ hz h1]
    | some v =>
      obtain ⟨q', z', rfl, hz', rfl⟩ := hhi
      cases lo with
      | none => simp only [BV] at hlo; subst hlo; simp [Instr.sliceBounds, sb q' z' _ _ hz' h2]
      | some v => obtain ⟨q, z, rfl, hz, rfl⟩ := hlo; simp [Instr.sliceBounds, sb q z _ _ hz h1, sb q' z' _ _ hz' h2]
  | some u =>
    obtain ⟨q2, z2, rfl, hz2, rfl⟩ := hmx
    cases hi with
    | none => simp at hx
    | some v =>
      obtain ⟨q', z', rfl, hz', rfl⟩ := hhi
      cases lo with
      | none => simp only [BV] at hlo; subst hlo; simp [Instr.sliceBounds, sb q' z' _ _ hz' h2, sb q2 z2 _ _ hz2 h3]
      | some v => obtain ⟨q, z, rfl, hz, rfl⟩ := hlo; simp [Instr.sliceBounds, sb q z _ _ hz h1, sb q' z' _ _ hz' h2, sb q2 z2 _ _ hz2 h3]
theorem bnd_some {x : Option Operand} (hx : ∀ y ∈ x, ∀ a, ρ y = some a → VRel c a (ev y)) {y : Option AV} (h : x.mapM ρ = some y) : y.isSome = x.isSome ∧ ∀ d k, bnd d y = some k → BV d (x.map ev) k := by
  cases x with
  | none =>
    simp at h; subst h
    refine ⟨rfl, fun d k hb => ?_⟩
    simp [bnd] at hb
    simp [BV, hb]
  | some x =>
    simp only [Option.mapM_some] at h
    obtain ⟨a, ha, he⟩ := Option.map_eq_some_iff.1 h
    subst he
    refine ⟨rfl, fun d k hb => ?_⟩
    have hr := hx x (by simp) a ha
    unfold bnd at hb
    split at hb
    · rename_i heq; cases heq
    · rename_i q z heq
      simp only [Option.some.injEq] at heq
      subst heq
      cases hz : decide (0 ≤ z) with
      | false => simp [hz] at hb
      | true =>
        simp only [hz, cond_true, Option.some.injEq] at hb
        subst hb
        refine ⟨q, z, ?_, by simpa using hz, rfl⟩
        generalize ev x = u at hr
        cases hr; rfl
    · cases hb
theorem BV_le {d d' k : Nat} {x : Option Value} (h : BV d x k) : BV d' x (match x with | none => d' | some _ => k) := by
  cases x with
  | none => rfl
  | some v => exact h
theorem ok_slice (g : Good B c) (hl : ∀ id b, look id = some b → c.M id = some b) {t : TypeId} {x : Operand} {lo hi mx : Option Operand} (ho : o.op = .slice t x lo hi mx) {y v : AV} {d : Wr} {lo' hi' mx' : Option AV} (hy : VRel c y (ev x))
    (hρ : ∀ z, z ∈ lo ∨ z ∈ hi ∨ z ∈ mx → ∀ a, ρ z = some a → VRel c a (ev z)) (e1 : lo.mapM ρ = some lo') (e2 : hi.mapM ρ = some hi') (e3 : mx.mapM ρ = some mx') (h : aSlice P look t y lo' hi' mx' = some (v, d)) : OpOk P B n c (execOp ev o) v d := by
  obtain ⟨s1, b1⟩ := bnd_some (fun z hz => hρ z (.inl hz)) e1
  obtain ⟨s2, b2⟩ := bnd_some (fun z hz => hρ z (.inr (.inl hz))) e2
  obtain ⟨s3, b3⟩ := bnd_some (fun z hz => hρ z (.inr (.inr hz))) e3
  have emx : ∀ (q : Bool), ((mx.map ev).isSome && (hi.map ev).isNone) = (mx'.isSome && hi'.isNone) := by
    intro _
    have : hi'.isNone = hi.isNone := by cases hi <;> cases hi' <;> simp_all
    simp [s3, this]
  unfold aSlice at h
  split at h
  · rename_i e hu
    split at h
    · rename_i sz hs
      split at h
      · -- nils
        split at h
        · rename_i h1 h2 h3
          cases hq : (mx'.isSome && hi'.isNone) with
          | true => simp [hq] at h
          | false =>
            simp only [hq, cond_false, Option.some.injEq, Prod.mk.injEq] at h
            obtain ⟨rfl, rfl⟩ := h
            generalize hev : ev x = u at hy
            cases hy
            have hb := run_sliceBounds (P := P) (isS := true) (len := 0) (cap := 0) (b1 _ _ h1) (b2 _ _ h2) (b3 _ _ h3) (Nat.le_refl 0) (Nat.le_refl 0) (Nat.le_refl 0) ((emx true).trans hq) c.w
            refine .still g (v' := .slice none 0 0) ?_ .nils
            simp [execOp, ho, Instr.sliceAt, run_underlying hu, Instr.slice, hev, hb, run_size hs]
        · cases h
      · rename_i k cs ex
        split at h
        · rename_i l hh m h1 h2 h3
          cases hq : (Nat.ble l hh && Nat.ble hh m && Nat.ble m k && Nat.beq cs.length (k * sz) && !(mx'.isSome && hi'.isNone)) with
          | false => simp only [hq, cond_false, reduceCtorEq] at h
          | true =>
            simp only [hq, cond_true, Option.some.injEq, Prod.mk.injEq] at h
            obtain ⟨rfl, rfl⟩ := h
            simp only [Bool.and_eq_true, Bool.not_eq_true'] at hq
            obtain ⟨⟨⟨⟨q1, q2⟩, q3⟩, q4⟩, q5⟩ := hq
            have q1 := Nat.le_of_ble_eq_true q1
            have q2 := Nat.le_of_ble_eq_true q2
            have q3 := Nat.le_of_ble_eq_true q3
            have q4 := Nat.eq_of_beq_eq_true q4
            -- the real bound
            have key : ∀ (a : Option Addr) (cap : Nat), ev x = .slice a k cap → k ≤ cap → ∃ m', m ≤ m' ∧ m' ≤ cap ∧ (mx'.isSome = true → m' = m) ∧ (execOp ev o).run P c.w = .ok (.value (.slice (if m' = l then a else a.map (·.add (l * sz))) (hh - l) (m' - l))) c.w := by
              intro a cap hev hk
              have hb3 := b3 k m h3
              cases hmx : mx with
              | none =>
                have hm0 : mx'.isSome = false := by rw [s3, hmx]; rfl
                refine ⟨cap, by omega, Nat.le_refl _, (fun h => by rw [hm0] at h; cases h), ?_⟩
                have hb := run_sliceBounds (P := P) (isS := true) (len := k) (cap := cap) (mx := none) (m := cap) (b1 _ _ h1) (b2 _ _ h2) rfl q1 (by omega) (Nat.le_refl _) rfl c.w
                simp [execOp, ho, Instr.sliceAt, run_underlying hu, Instr.slice, hev, hmx, hb, run_size hs]
              | some mo =>
                refine ⟨m, Nat.le_refl _, by omega, fun _ => rfl, ?_⟩
                have hb := run_sliceBounds (P := P) (isS := true) (len := k) (cap := cap) (mx := mx.map ev) (m := m) (b1 _ _ h1) (b2 _ _ h2) (by rw [hmx] at hb3 ⊢; exact hb3) q1 q2 (by omega) ((emx true).trans q5) c.w
                rw [hmx] at hb
                simp only [Option.map_some] at hb
                simp [execOp, ho, Instr.sliceAt, run_underlying hu, Instr.slice, hev, hmx, hb, run_size hs]
            generalize hev : ev x = u at hy
            cases hy with
            | lst0 a cap ex he hm hn =>
              obtain ⟨m', k1, k2, k3, kr⟩ := key a cap hev (Nat.zero_le _)
              have hl0 : l = 0 := by omega
              have hh0 : hh = 0 := by omega
              have hm0 : m = 0 := by omega
              subst hl0 hh0 hm0
              refine .still g kr ?_
              have ea : (if m' = 0 then a else a.map (·.add (0 * sz))) = a := by
                split
                · rfl
                · cases a with
                  | none => rfl
                  | some a => obtain ⟨b', o', s'⟩ := a; simp [Addr.add]
              rw [ea]
              simp only [Nat.zero_mul, List.drop_nil, List.take_nil, Nat.sub_zero, Nat.sub_self]
              refine .lst0 a m' _ (fun h => ?_) (by omega) (fun h => by have := hn h; omega)
              simp only [Bool.and_eq_true] at h
              exact k3 h.1
            | lst hb hr hc hn he hm =>
              rename_i b' o' vs cap
              obtain ⟨m', k1, k2, k3, kr⟩ := key (some ⟨b', o', none⟩) cap hev hn
              refine .still g kr ?_
              by_cases hml : m' = l
              · have : hh = l := by omega
                subst this
                simp only [hml, if_true, Nat.sub_self, Nat.zero_mul, List.take_zero]
                exact .lst0 _ 0 _ (fun _ => rfl) (by omega) (fun _ => rfl)
              · simp only [hml, if_false, Option.map_some, Addr.add_lit]
                refine .lst hb ((hr.drop _).take _) ?_ (by omega) (fun h => ?_) (by omega)
                · intro j u hj
                  rw [List.getElem?_take] at hj
                  split at hj
                  · rw [List.getElem?_drop] at hj
                    have := hc _ u hj
                    rwa [← Nat.add_assoc] at this
                  · cases hj
                · simp only [Bool.and_eq_true] at h
                  have := k3 h.1
                  have := Nat.eq_of_beq_eq_true h.2
                  omega
        · cases h
      · rename_i id off esz k cap ex
        split at h
        · rename_i l hh m h1 h2 h3
          cases hq : (Nat.ble l hh && Nat.ble hh m && Nat.ble m cap && Nat.beq esz sz && !(mx'.isSome && hi'.isNone)) with
          | false => simp only [hq, cond_false, reduceCtorEq] at h
          | true =>
            simp only [hq, cond_true] at h
            simp only [Bool.and_eq_true, Bool.not_eq_true'] at hq
            obtain ⟨⟨⟨⟨q1, q2⟩, q3⟩, q4⟩, q5⟩ := hq
            have q1 := Nat.le_of_ble_eq_true q1
            have q2 := Nat.le_of_ble_eq_true q2
            have q3 := Nat.le_of_ble_eq_true q3
            have q4 := Nat.eq_of_beq_eq_true q4
            subst q4
            generalize hev : ev x = u at hy
            cases hy with
            | sl ha hb hs' hn hc he hm =>
              rename_i cap' arr T
              have key : ∃ m', m ≤ m' ∧ m' ≤ cap' ∧ ((ex || mx'.isSome) = true → m' = m) ∧ (execOp ev o).run P c.w = .ok (.value (.slice (if m' = l then some ⟨c.f id, off, none⟩ else some ⟨c.f id, off + l * esz, none⟩) (hh - l) (m' - l))) c.w := by
                have hb3 := b3 cap m h3
                cases hmx : mx with
                | none =>
                  have hm0 : mx'.isSome = false := by rw [s3, hmx]; rfl
                  rw [hmx] at hb3
                  simp only [Option.map_none, BV] at hb3
                  refine ⟨cap', by omega, Nat.le_refl _, (fun h => by rw [hm0, Bool.or_false] at h; rw [he h, hb3]), ?_⟩
                  have hb' := run_sliceBounds (P := P) (isS := true) (len := k) (cap := cap') (mx := none) (m := cap') (b1 _ _ h1) (b2 _ _ h2) rfl q1 (by omega) (Nat.le_refl _) rfl c.w
                  simp [execOp, ho, Instr.sliceAt, run_underlying hu, Instr.slice, hev, hmx, hb', run_size hs, Addr.add_lit]
                | some mo =>
                  refine ⟨m, Nat.le_refl _, by omega, fun _ => rfl, ?_⟩
                  have hb' := run_sliceBounds (P := P) (isS := true) (len := k) (cap := cap') (mx := mx.map ev) (m := m) (b1 _ _ h1) (b2 _ _ h2) (by rw [hmx] at hb3 ⊢; exact hb3) q1 q2 (by omega) ((emx true).trans q5) c.w
                  rw [hmx] at hb'
                  simp only [Option.map_some] at hb'
                  simp [execOp, ho, Instr.sliceAt, run_underlying hu, Instr.slice, hev, hmx, hb', run_size hs, Addr.add_lit]
              obtain ⟨m', k1, k2, k3, kr⟩ := key
              cases hlm : Nat.beq l m with
              | true =>
                simp only [hlm, cond_true, Option.some.injEq, Prod.mk.injEq] at h
                obtain ⟨rfl, rfl⟩ := h
                have hlm := Nat.eq_of_beq_eq_true hlm
                refine .still g kr ?_
                have e0 : hh - l = 0 := by omega
                rw [e0]
                refine .lst0 _ (m' - l) _ (fun h => by have := k3 h; omega) (by omega) (fun h => ?_)
                split at h <;> cases h
              | false =>
                simp only [hlm, cond_false, Option.some.injEq, Prod.mk.injEq] at h
                obtain ⟨rfl, rfl⟩ := h
                have hlm := Nat.ne_of_beq_eq_false hlm
                refine .still g kr ?_
                have hml : ¬ m' = l := by omega
                simp only [hml, if_false]
                refine .sl ha hb ?_ (by omega) (by omega) (fun h => by have := k3 h; omega) (by omega)
                have : l * esz + (m' - l) * esz ≤ cap' * esz := by rw [← Nat.add_mul]; exact Nat.mul_le_mul_right _ (by omega)
                omega
        · cases h
      · cases h
    · cases h
  · rename_i len e hu
    split at h
    · rename_i sz hs
      split at h
      · rename_i id off
        split at h
        · rename_i b l hh m hb h1 h2 h3
          cases hq : (Nat.ble l hh && Nat.ble hh m && Nat.ble m len && Nat.ble (off + len * sz) b.cells.length && Nat.ble len 4611686018427387904 && !(mx'.isSome && hi'.isNone)) with
          | false => simp only [hq, cond_false, reduceCtorEq] at h
          | true =>
            simp only [hq, cond_true] at h
            simp only [Bool.and_eq_true, Bool.not_eq_true'] at hq
            obtain ⟨⟨⟨⟨⟨q1, q2⟩, q3⟩, q4⟩, q6⟩, q5⟩ := hq
            have q1 := Nat.le_of_ble_eq_true q1
            have q2 := Nat.le_of_ble_eq_true q2
            have q3 := Nat.le_of_ble_eq_true q3
            have q4 := Nat.le_of_ble_eq_true q4
            have q6 := Nat.le_of_ble_eq_true q6
            obtain ⟨arr, vs, rest, k1, k2, k3, -⟩ := g.cells (hl id b hb)
            have hal : (vs ++ rest).length = arr.size := by rw [← k2]; simp
            have hvl := k3.length
            generalize hev : ev x = u at hy
            cases hy with
            | ptr ha off =>
              have hb' := run_sliceBounds (P := P) (isS := false) (len := len) (cap := len) (b1 _ _ h1) (b2 _ _ h2) (b3 _ _ h3) q1 q2 q3 ((emx true).trans q5) c.w
              have kr : (execOp ev o).run P c.w = .ok (.value (.slice (some (if m = l then ⟨c.f id, off, none⟩ else ⟨c.f id, off + l * sz, none⟩)) (hh - l) (m - l))) c.w := by
                simp [execOp, ho, Instr.sliceAt, run_underlying hu, hev, Instr.sureAddr, hb', run_size hs, Addr.add_lit]
              cases hlm : Nat.beq l m with
              | true =>
                simp only [hlm, cond_true, Option.some.injEq, Prod.mk.injEq] at h
                obtain ⟨rfl, rfl⟩ := h
                have hlm := Nat.eq_of_beq_eq_true hlm
                refine .still g kr ?_
                have e0 : hh - l = 0 := by omega
                rw [e0]
                exact .lst0 _ (m - l) _ (fun _ => by omega) (by unfold maxLen; omega) (fun h => by cases h)
              | false =>
                simp only [hlm, cond_false, Option.some.injEq, Prod.mk.injEq] at h
                obtain ⟨rfl, rfl⟩ := h
                have hlm := Nat.ne_of_beq_eq_false hlm
                refine .still g kr ?_
                have hml : ¬ m = l := fun h => hlm h.symm
                simp only [hml, if_false]
                refine .sl ha k1 ?_ (by omega) (Nat.le_refl _) (fun _ => rfl) (by unfold maxLen; omega)
                have : l * sz + (m - l) * sz ≤ len * sz := by rw [← Nat.add_mul]; exact Nat.mul_le_mul_right _ (by omega)
                simp at hal
                omega
        · cases h
      · rename_i cs off
        split at h
        · rename_i l hh m h1 h2 h3
          cases hq : (Nat.ble l hh && Nat.ble hh m && Nat.ble m len && Nat.ble (off + len * sz) cs.length && Nat.ble len 4611686018427387904 && !(mx'.isSome && hi'.isNone)) with
          | false => simp only [hq, cond_false, reduceCtorEq] at h
          | true =>
            simp only [hq, cond_true] at h
            simp only [Bool.and_eq_true, Bool.not_eq_true'] at hq
            obtain ⟨⟨⟨⟨⟨q1, q2⟩, q3⟩, q4⟩, q6⟩, q5⟩ := hq
            have q1 := Nat.le_of_ble_eq_true q1
            have q2 := Nat.le_of_ble_eq_true q2
            have q3 := Nat.le_of_ble_eq_true q3
            have q4 := Nat.le_of_ble_eq_true q4
            have q6 := Nat.le_of_ble_eq_true q6
            generalize hev : ev x = u at hy
            cases hy with
            | ept hbs hr hc off =>
              rename_i b' o' vs
              have hb' := run_sliceBounds (P := P) (isS := false) (len := len) (cap := len) (b1 _ _ h1) (b2 _ _ h2) (b3 _ _ h3) q1 q2 q3 ((emx true).trans q5) c.w
              have kr : (execOp ev o).run P c.w = .ok (.value (.slice (some (if m = l then ⟨b', o' + off, none⟩ else ⟨b', o' + off + l * sz, none⟩)) (hh - l) (m - l))) c.w := by
                simp [execOp, ho, Instr.sliceAt, run_underlying hu, hev, Instr.sureAddr, hb', run_size hs, Addr.add_lit]
              cases hlm : Nat.beq l m with
              | true =>
                simp only [hlm, cond_true, Option.some.injEq, Prod.mk.injEq] at h
                obtain ⟨rfl, rfl⟩ := h
                have hlm := Nat.eq_of_beq_eq_true hlm
                refine .still g kr ?_
                have e0 : hh - l = 0 := by omega
                rw [e0]
                exact .lst0 _ (m - l) _ (fun _ => by omega) (by unfold maxLen; omega) (fun h => by cases h)
              | false =>
                simp only [hlm, cond_false, Option.some.injEq, Prod.mk.injEq] at h
                obtain ⟨rfl, rfl⟩ := h
                have hlm := Nat.ne_of_beq_eq_false hlm
                refine .still g kr ?_
                have hml : ¬ m = l := fun h => hlm h.symm
                simp only [hml, if_false]
                refine .lst hbs ((hr.drop _).take _) ?_ (by omega) (fun h => by have := Nat.eq_of_beq_eq_true h; omega) (by unfold maxLen; omega)
                intro j u hj
                rw [List.getElem?_take] at hj
                split at hj
                · rw [List.getElem?_drop] at hj
                  have := hc _ u hj
                  rw [← this]
                  congr 2
                  omega
                · cases hj
        · cases h
      · cases h
    · cases h
  · cases h
end
end Go.Proofs.Ytfhcciepaangiaa
