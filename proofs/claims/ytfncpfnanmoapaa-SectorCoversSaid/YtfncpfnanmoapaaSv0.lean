/- The count of draws never falls in one operation; an append to a row that the run owns, with that. -/
import Derived.Test.YtfncpfnanmoapaaSv1
set_option linter.unusedVariables false
set_option linter.unusedSimpArgs false
namespace Go.Proofs.Ytfncpfnanmoapaa
open Go.RowKit Go.Shelf

theorem viewStore_drawn {p : Program} {w w' : World} {at_ k : Addr} {u : TypeId} {v : Value} {b : Bool} {l : List Addr} (h : w.viewStore p at_ u k v b = .ok (w', l)) : w'.drawn = w.drawn := by
  unfold World.viewStore at h
  simp only [bind, Except.bind, pure, Except.pure] at h
  repeat' (first | (split at h) | (cases h; done))
  all_goals first | (cases h; rfl) | (simp only [Except.ok.injEq, Prod.mk.injEq] at h; obtain ⟨rfl, -⟩ := h; rfl)
theorem ask_drawn {α : Type} : ∀ (a : Ask α) (w : World), w.drawn ≤ (w.ask a).2.drawn
  | .done _, w => Nat.le_refl _
  | .ask what range k, w => by
    unfold World.ask
    simp only
    split
    · exact ask_drawn _ w
    · exact Nat.le_trans (Nat.le_succ _) (ask_drawn (k ((Question.extern what range).cut (w.tape w.drawn (Question.extern what range)))) { w with drawn := w.drawn + 1 })
theorem run_drawn {α : Type} (p : Program) : ∀ (s : Sem α) (w w' : World) (a : α), s.run p w = .ok a w' → w.drawn ≤ w'.drawn
  | .pure x, w, w', a, h => by simp only [Sem.run, Result.ok.injEq] at h; rw [h.2]; exact Nat.le_refl _
  | .load m x k, w, w', a, h => by
    unfold Sem.run at h
    split at h
    · exact run_drawn p _ w w' a h
    · split at h
      · exact run_drawn p _ w w' a h
      · cases h
  | .store m x v k, w, w', a, h => by
    have key : (match w.cell? x with
      | some _ => if w.frozen? x then Result.halt (.unsupported (.unsafePointer "a write to bytes that a string shares")) w else k.run p (w.setCell x v)
      | none => match w.farStore p x v (m == Mode.atomic) with
        | .ok (w, _) => k.run p w
        | .error h => .halt h w) = .ok a w' := by
      cases v <;> simp only [Sem.run] at h <;> first | exact h | cases h
    clear h
    split at key
    · split at key
      · cases key
      · exact run_drawn p k (w.setCell x v) w' a key
    · split at key
      · rename_i w1 l hs
        have e : w1.drawn = w.drawn := by
          unfold World.farStore at hs
          split at hs
          · split at hs
            · rename_i r hr
              cases hs
              exact viewStore_drawn hr
            · cases hs
          · cases hs
        rw [← e]
        exact run_drawn p k w1 w' a key
      · cases key
  | .new o k, w, w', a, h => by unfold Sem.run at h; exact run_drawn p (k w.heap.size) { w with heap := w.heap.push o } w' a h
  | .shape r k, w, w', a, h => by unfold Sem.run at h; exact run_drawn p _ w w' a h
  | .freeze x n k, w, w', a, h => by
    unfold Sem.run at h
    have := run_drawn p k _ w' a h
    unfold World.freeze at this
    split at this <;> exact this
  | .frozen x k, w, w', a, h => by unfold Sem.run at h; exact run_drawn p _ w w' a h
  | .getObj r k, w, w', a, h => by
    unfold Sem.run at h
    split at h
    · cases h
    · exact run_drawn p _ w w' a h
    · cases h
  | .setObj r o k, w, w', a, h => by
    unfold Sem.run at h
    split at h
    · cases h
    · exact run_drawn p k { w with heap := w.heap.setIfInBounds r o } w' a h
    · cases h
  | .choose q k, w, w', a, h => by
    unfold Sem.run at h
    split at h
    · exact run_drawn p _ w w' a h
    · exact Nat.le_trans (Nat.le_succ _) (run_drawn p _ _ w' a h)
  | .sys c k, w, w', a, h => by
    unfold Sem.run at h
    refine Nat.le_trans ?_ (run_drawn p _ _ w' a h)
    unfold World.sys
    have := ask_drawn (Kernel.perform c w.os) w
    split
    · exact Nat.le_refl _
    · rename_i hq
      rw [hq] at this
      exact this
  | .program k, w, w', a, h => by unfold Sem.run at h; exact run_drawn p _ w w' a h
  | .mark m k, w, w', a, h => by unfold Sem.run at h; exact run_drawn p k w w' a h
  | .halt x, w, w', a, h => by simp [Sem.run] at h
theorem append_d {F : Fence} {n : Nat} {P : Program} (w : World) {ops : Array Oper} {rest : List Oper} {o : Oper} {a : Act} {Q : Exit → Act → World → Prop}
    (hg : o.guard = none) (s x : Operand) (t : TypeId) (hop : o.op = Op.call { callee := Callee.builtin Builtin.append, args := #[s, x], argTypes := #[t, t] })
    (base : Nat) (e : TypeId) (i : TypeInfo) (z : Value) (size bytes : Nat) (h1 : P.underlying t = some (.slice e)) (h2 : P.info? e = some i) (h3 : i.zero = some z) (h4 : i.size = size) (h5 : i.bytes = bytes) (h6 : z.cells.size = size) (h7 : 0 < size)
    (v : Value) (k : Nat) (xs : List Value) (hs : a.eval s = v) (hown : w.ownsRow base e size v k xs) (ad : Addr) (m c : Nat) (news : List Value) (hx : a.eval x = .slice (some ad) m c) (hn : news.length = m * size)
    (hc : ∀ j u, news[j]? = some u → w.cell? (ad.add j) = some u) (h1c : ∀ u ∈ news, u.oneCell' = true) (b1 : k + m ≤ maxLen) (b2 : (k + m) * bytes ≤ 140737488355328) (b3 : base ≤ w.heap.size)
    (hK : ∀ v' w', w'.ownsRow base e size v' (k + m) (xs ++ news) → w.grownBy w' v.ownBlock → (v' = .slice none 0 0 ↔ v = .slice none 0 0 ∧ m = 0) → w.drawn ≤ w'.drawn → wpListIn F n P ops Q rest (a.put o.dst v') w') :
    wpListIn F n P ops Q (o :: rest) a w := by
  refine wpListIn_plain hg fun K hK' => ?_
  obtain ⟨v', w', hrun, r1, r2, r3⟩ := run_append_own (P := P) w base t o.type e i z size bytes h1 h2 h3 h4 h5 h6 h7 v k xs hown ad m c news hn hc h1c b1 b2 b3
  have hd := run_drawn P _ _ _ _ hrun
  unfold Oper.wpIn
  refine ⟨?_, ?_⟩
  · simp [Oper.about, hop, resolve, Target.leads, Sem.run_pure]
  · rw [Oper.semAt_plain F _ _ (by rw [hop]; intro c hc'; cases hc')]
    simp [execOp, hop, resolve, invoke, builtin, hs, hx, hrun, Result.andThen]
    exact hK' _ _ (hK v' w' r1 r2 r3 hd)
theorem new3 (w : World) (x y z : Value) (T : TypeId) : ∀ j u, ([x, y, z] : List Value)[j]? = some u → (w.alloc (.cells #[x, y, z] T)).cell? ((⟨w.heap.size, 0, none⟩ : Addr).add j) = some u := by
  intro j u hu
  have hh : (w.alloc (.cells #[x, y, z] T)).heap[w.heap.size]? = some (.cells #[x, y, z] T (0, 0)) := World.alloc_heap_new w _
  rw [show (⟨w.heap.size, 0, none⟩ : Addr).add j = ⟨w.heap.size, j, none⟩ by unfold Addr.add; split <;> simp_all]
  match j, hu with
  | 0, hu => simp only [World.cell?, hh]; simpa using hu
  | 1, hu => simp only [World.cell?, hh]; simpa using hu
  | 2, hu => simp only [World.cell?, hh]; simpa using hu
  | j + 3, hu => simp at hu
end Go.Proofs.Ytfncpfnanmoapaa
