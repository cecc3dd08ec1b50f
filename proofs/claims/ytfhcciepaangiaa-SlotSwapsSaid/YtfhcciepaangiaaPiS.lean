/- A sort of a slice of the run's own, by the library's contract: the bridge from worlds to plain values. -/
import Derived.Test.YtfhcciepaangiaaPi29
import Derived.Shelf.SlSortCmp.InsertionK
set_option linter.unusedVariables false
set_option linter.unusedSimpArgs false
namespace Go.Proofs.Ytfhcciepaangiaa
open Go.RowKit Go.Sort

def scV : AV → Value
  | .sc v => v
  | _ => undef
section
variable {α : Type}
def encW (E : En α) (x : α) : List Value := (E.enc x).map scV
theorem encW_len (E : En α) (x : α) : (encW E x).length = E.size := by rw [encW, List.length_map, E.len]
theorem rels_sc {c : Cx} : ∀ {cs : List AV} {vs : List Value}, cs.all isScA = true → Rels c cs vs → vs = cs.map scV
  | [], _, _, h => by cases h; rfl
  | x :: cs, _, ha, h => by
    simp only [List.all_cons, Bool.and_eq_true] at ha
    cases h with
    | cons h t =>
      rw [rels_sc ha.2 t, List.map_cons]
      congr 1
      cases x with
      | sc v => cases h with | sc _ _ => rfl
      | _ => simp [isScA] at ha
/- a list of real values for cells that are scalars, wherever -/
theorem rels_any {c c' : Cx} {cs : List AV} {vs : List Value} (ha : cs.all isScA = true) (h : Rels c cs vs) : Rels c' cs vs := all_sc ha h
/- every element's cells are real values of the right kind -/
def OkE (E : En α) : Prop := ∀ x, ∀ c ∈ E.enc x, ∃ v, c = .sc v ∧ isSc v = true
theorem OkE.sc {E : En α} (h : OkE E) : ScE E := fun x => List.all_eq_true.2 fun c hc => by obtain ⟨v, rfl, -⟩ := h x c hc; rfl
theorem rels_encW {E : En α} (h : OkE E) (c : Cx) (x : α) : Rels c (E.enc x) (encW E x) := by
  have key : ∀ cs : List AV, (∀ a ∈ cs, ∃ v, a = .sc v ∧ isSc v = true) → Rels c cs (cs.map scV) := by
    intro cs
    induction cs with
    | nil => intro _; exact .nil
    | cons a cs ih =>
      intro ha
      obtain ⟨v, rfl, hv⟩ := ha a (by simp)
      exact .cons (.sc v hv) (ih fun b hb => ha b (by simp [hb]))
  exact key _ (h x)
theorem oneCell_encW {E : En α} (h : OkE E) (x : α) : ∀ v ∈ encW E x, v.oneCell' = true := by
  intro v hv
  obtain ⟨a, ha, rfl⟩ := List.mem_map.1 hv
  obtain ⟨u, rfl, hu⟩ := h x a ha
  cases u <;> simp [isSc] at hu <;> rfl
/- worlds -/
theorem world_grow {W w' : World} (h1 : w'.os = W.os) (h2 : w'.tape = W.tape) (h3 : w'.output = W.output) (h4 : W.heap.size ≤ w'.heap.size) (h5 : ∀ b, b < W.heap.size → w'.heap[b]? = W.heap[b]?) (h6 : W.drawn ≤ w'.drawn) : ∃ q os', w' = Sort.grow (W.drewN q) os' := by
  refine ⟨w'.drawn - W.drawn, w'.heap.extract W.heap.size w'.heap.size, ?_⟩
  have hh : w'.heap = W.heap ++ w'.heap.extract W.heap.size w'.heap.size := by
    apply Array.ext_getElem?
    intro k
    rw [Array.getElem?_append]
    split
    · rename_i hk; exact h5 k hk
    · rename_i hk
      rw [Array.getElem?_extract]
      split
      · congr 1; omega
      · rename_i hk2
        rw [Array.getElem?_eq_none (by omega)]
  cases w' with
  | mk heap tape drawn os output =>
    have hd : drawn = W.drawn + (drawn - W.drawn) := by have : W.drawn ≤ drawn := h6; omega
    show World.mk heap tape drawn os output = Sort.grow (W.drewN (drawn - W.drawn)) _
    have e1 : tape = W.tape := h2
    have e2 : os = W.os := h1
    have e3 : output = W.output := h3
    have e4 : heap = W.heap ++ heap.extract W.heap.size heap.size := hh
    subst e1; subst e2; subst e3
    unfold Sort.grow
    simp only [World.drewN]
    congr 1
end
end Go.Proofs.Ytfhcciepaangiaa
