/- load.Count. -/
import Derived.Test.YtldiackagnjlgaaGreatScL
set_option linter.unusedVariables false
set_option linter.unusedSimpArgs false
namespace Go.Proofs.YtldiackagnjlgaaGreat

theorem At_either (n : Nat) (hn : 64 < n) (t : List TTubeNode) (hc : g21 n t = some 0) (ht : TubeOk t) (u : Int) : (∃ r, g42 n t u = some (r, 0)) ∨ g42 n t u = some (zeroN, 12) := by
  have hp := ht.pos
  have h0 : t[0]? = some t[0] := List.getElem?_eq_getElem (by omega)
  have h1 : t[t.length - 1]? = some t[t.length - 1] := List.getElem?_eq_getElem (by omega)
  rcases At_cases n hn t ht hc u _ _ h0 h1 with ⟨-, -, r, -, e⟩ | ⟨-, e⟩
  · exact .inl ⟨r, e⟩
  · exact .inr e
def hit (n : Nat) (u : Int) (t : List TTubeNode) : Bool := match g42 n t u with | some r => r.2 == 0 | none => false
theorem take_one {α : Type} {l : List α} {i : Nat} {x : α} (h : l[i]? = some x) : l.take (i + 1) = l.take i ++ [x] := by rw [List.take_add_one, h]; rfl
end Go.Proofs.YtldiackagnjlgaaGreat
