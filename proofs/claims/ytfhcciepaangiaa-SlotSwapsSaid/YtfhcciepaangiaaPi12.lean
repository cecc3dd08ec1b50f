/- Every operation that the plain evaluator takes does in a world what it says. -/
import Derived.Test.YtfhcciepaangiaaPi11
set_option linter.unusedVariables false
set_option linter.unusedSimpArgs false
namespace Go.Proofs.Ytfhcciepaangiaa
open Go.RowKit

section
variable {P : Program} {B n : Nat} {c : Cx} {ev : Operand → Value} {ρ : Operand → Option AV} {look : Nat → Option ABlk} {o : Oper}

theorem two_args {l : Array Operand} {a b : Operand} (h : l.toList = [a, b]) : l = #[a, b] := by apply Array.ext'; simpa using h
theorem two_tys {l : Array TypeId} {a b : TypeId} (h : l.toList = [a, b]) : l = #[a, b] := by apply Array.ext'; simpa using h
theorem one_arg {l : Array Operand} {a : Operand} (h : l.toList = [a]) : l = #[a] := by apply Array.ext'; simpa using h
theorem one_ty {l : Array TypeId} {a : TypeId} (h : l.toList = [a]) : l = #[a] := by apply Array.ext'; simpa using h
theorem aop_ok (g : Good B c) (hn : ¬ c.al n) (hl : ∀ id b, look id = some b → c.M id = some b) (hρ : ∀ x ∈ o.op.operands.toList, ∀ y, ρ x = some y → VRel c y (ev x)) {v : AV} {d : Wr} (h : aop P ρ look n o = some (v, d)) : OpOk P B n c (execOp ev o) v d := by
  unfold aop at h
  split at h
  · rename_i x ho
    obtain ⟨y, hy, he⟩ := Option.map_eq_some_iff.1 h
    simp only [Prod.mk.injEq] at he
    obtain ⟨rfl, rfl⟩ := he
    exact ok_move g (.inl ho) (hρ x (by rw [ho]; simp [Op.operands]) _ hy)
  · rename_i x ho
    obtain ⟨y, hy, he⟩ := Option.map_eq_some_iff.1 h
    simp only [Prod.mk.injEq] at he
    obtain ⟨rfl, rfl⟩ := he
    exact ok_move g (.inr ho) (hρ x (by rw [ho]; simp [Op.operands]) _ hy)
  · rename_i t a b ho
    split at h
    · rename_i q ht
      obtain ⟨y, hy, he⟩ := Option.map_eq_some_iff.1 h
      simp only [Prod.mk.injEq] at he
      obtain ⟨rfl, rfl⟩ := he
      refine ok_pick g ho (hρ t (by rw [ho]; simp [Op.operands]) _ ht) ?_
      cases q
      · exact hρ b (by rw [ho]; simp [Op.operands]) _ hy
      · exact hρ a (by rw [ho]; simp [Op.operands]) _ hy
    · cases h
  · rename_i t ho
    split at h
    · rename_i cs hcs
      simp only [Option.some.injEq, Prod.mk.injEq] at h
      obtain ⟨rfl, rfl⟩ := h
      exact ok_alloc g hn ho hcs
    · cases h
  · rename_i t x ho
    split at h
    · rename_i cs hcs
      simp only [Option.some.injEq, Prod.mk.injEq] at h
      obtain ⟨rfl, rfl⟩ := h
      obtain ⟨y, hy, hc⟩ := Option.bind_eq_some_iff.1 hcs
      exact ok_box g hn ho (hρ x (by rw [ho]; simp [Op.operands]) _ hy) hc
    · cases h
  · rename_i t a ho
    obtain ⟨y, hy, hc⟩ := Option.bind_eq_some_iff.1 h
    exact ok_load g hl ho (hρ a (by rw [ho]; simp [Op.operands]) _ hy) hc
  · rename_i t a x ho
    split at h
    · rename_i p y hp hy
      exact ok_store g hl ho (hρ a (by rw [ho]; simp [Op.operands]) _ hp) (hρ x (by rw [ho]; simp [Op.operands]) _ hy) h
    · cases h
  · rename_i t x fi ho
    obtain ⟨y, hy, hc⟩ := Option.bind_eq_some_iff.1 h
    exact ok_fieldAddr g ho (hρ x (by rw [ho]; simp [Op.operands]) _ hy) hc
  · rename_i t x i ho
    split at h
    · rename_i p y hp hy
      exact ok_indexAddr g ho (hρ x (by rw [ho]; simp [Op.operands]) _ hp) (hρ i (by rw [ho]; simp [Op.operands]) _ hy) h
    · cases h
  · rename_i t x fi ho
    obtain ⟨y, hy, hc⟩ := Option.bind_eq_some_iff.1 h
    exact ok_field g ho (hρ x (by rw [ho]; simp [Op.operands]) _ hy) hc
  · rename_i t x i ho
    split at h
    · rename_i cs y hp hy
      exact ok_index g ho (hρ x (by rw [ho]; simp [Op.operands]) _ hp) (hρ i (by rw [ho]; simp [Op.operands]) _ hy) h
    · exact ok_plain g hρ h
  · rename_i x i ho
    split at h
    · rename_i vs hx
      obtain ⟨y, hy, he⟩ := Option.map_eq_some_iff.1 h
      simp only [Prod.mk.injEq] at he
      obtain ⟨rfl, rfl⟩ := he
      exact ok_extract g ho (hρ x (by rw [ho]; simp [Op.operands]) _ hx) hy
    · cases h
  · rename_i t parts ho
    obtain ⟨ys, hys, hc⟩ := Option.bind_eq_some_iff.1 h
    exact ok_build g ho (fun p hp y hy => hρ p.2 (by rw [ho]; simp only [Op.operands]; exact List.mem_map.2 ⟨p, hp, rfl⟩) y hy) hys hc
  · rename_i t len parts ho
    obtain ⟨ys, hys, hc⟩ := Option.bind_eq_some_iff.1 h
    exact ok_buildSlice g hn ho (fun p hp y hy => hρ p.2 (by rw [ho]; simp only [Op.operands]; exact List.mem_map.2 ⟨p, hp, rfl⟩) y hy) hys hc
  · rename_i t l k ho
    split at h
    · rename_i p y hp hy
      exact ok_makeSlice g hn ho (hρ l (by rw [ho]; simp [Op.operands]) _ hp) (hρ k (by rw [ho]; simp [Op.operands]) _ hy) h
    · cases h
  · rename_i t x lo hi mx ho
    split at h
    · exact ok_plain g hρ h
    · rename_i y hy hnot
      split at h
      · rename_i lo' hi' mx' e1 e2 e3
        refine ok_slice g hl ho (hρ x (by rw [ho]; simp [Op.operands]) _ hnot) (fun z hz a ha => hρ z ?_ a ha) e1 e2 e3 h
        rw [ho]
        simp only [Op.operands, Array.toList_append, List.mem_append]
        rcases hz with hz | hz | hz
        · exact .inl (.inl (.inr (by simpa using hz)))
        · exact .inl (.inr (by simpa using hz))
        · exact .inr (by simpa using hz)
      · cases h
    · cases h
  · rename_i x ho
    split at h
    · rename_i id off hx
      simp only [Option.some.injEq, Prod.mk.injEq] at h
      obtain ⟨rfl, rfl⟩ := h
      exact ok_nilCheck g ho (hρ x (by rw [ho]; simp [Op.operands]) _ hx) rfl
    · rename_i cs off hx
      simp only [Option.some.injEq, Prod.mk.injEq] at h
      obtain ⟨rfl, rfl⟩ := h
      exact ok_nilCheck g ho (hρ x (by rw [ho]; simp [Op.operands]) _ hx) rfl
    · rename_i f cs hx
      simp only [Option.some.injEq, Prod.mk.injEq] at h
      obtain ⟨rfl, rfl⟩ := h
      exact ok_nilCheck g ho (hρ x (by rw [ho]; simp [Op.operands]) _ hx) rfl
    · cases h
  · rename_i f first caps ho
    split at h
    · rename_i hf
      obtain ⟨y, hy, he⟩ := Option.map_eq_some_iff.1 h
      simp only [Prod.mk.injEq] at he
      obtain ⟨rfl, rfl⟩ := he
      exact ok_makeFunc g ho hf (fun x hx y hy => hρ x (by rw [ho]; simp only [Op.operands, Array.toList_append, List.mem_append]; exact .inr hx) y hy) hy
    · cases h
  · rename_i op t x y q ho
    exact ok_bin (z := none) g (fun w => by simp only [execOp, ho, Sem.run_bind, Sem.run_pure]) hρ (by rw [ho]; simp [Op.operands]) (by rw [ho]; simp [Op.operands]) h
  · rename_i args argTypes ho
    split at h
    · rename_i s x t tx h1 h2
      obtain rfl := two_args h1
      obtain rfl := two_tys h2
      split at h
      · rename_i p y hp hy
        exact ok_append g hn hl (ty := o.type) (hρ s (by rw [ho]; simp [Op.operands, Call.operands]) _ hp) (hρ x (by rw [ho]; simp [Op.operands, Call.operands]) _ hy) (fun w => by simp [execOp, ho, resolve, invoke, builtin]) h
      · cases h
    · cases h
  · rename_i args argTypes ho
    split at h
    · rename_i x t h1 h2
      obtain rfl := one_arg h1
      obtain rfl := one_ty h2
      obtain ⟨y, hy, hc⟩ := Option.bind_eq_some_iff.1 h
      exact ok_len g (ty := o.type) (hρ x (by rw [ho]; simp [Op.operands, Call.operands]) _ hy) (fun w => by simp [execOp, ho, resolve, invoke, builtin]) hc
    · cases h
  · rename_i args argTypes ho
    split at h
    · rename_i s x t tx h1 h2
      obtain rfl := two_args h1
      obtain rfl := two_tys h2
      split at h
      · rename_i p y hp hy
        exact ok_copy g hl (ty := o.type) (hρ s (by rw [ho]; simp [Op.operands, Call.operands]) _ hp) (hρ x (by rw [ho]; simp [Op.operands, Call.operands]) _ hy) (fun w => by simp [execOp, ho, resolve, invoke, builtin]) h
      · cases h
    · cases h
  · rename_i args argTypes ho
    split at h
    · rename_i x t h1 h2
      obtain rfl := one_arg h1
      obtain rfl := one_ty h2
      obtain ⟨y, hy, hc⟩ := Option.bind_eq_some_iff.1 h
      exact ok_clear g hl (ty := o.type) (hρ x (by rw [ho]; simp [Op.operands, Call.operands]) _ hy) (fun w => by simp [execOp, ho, resolve, invoke, builtin]) hc
    · cases h
  · exact ok_plain g hρ h
  · exact ok_plain g hρ h
  · exact ok_plain g hρ h
  · rename_i src dst x ho
    exact ok_conv g hn hl ho hρ (by rw [ho]; simp [Op.operands]) h
  · cases h
end
end Go.Proofs.Ytfhcciepaangiaa
