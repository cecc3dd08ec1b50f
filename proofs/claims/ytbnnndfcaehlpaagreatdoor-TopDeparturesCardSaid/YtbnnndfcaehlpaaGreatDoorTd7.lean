/- taxi.Late as a plain program. -/
import Derived.Test.YtbnnndfcaehlpaaGreatDoorTd6
set_option linter.unusedVariables false
set_option linter.unusedSimpArgs false
namespace Go.Proofs.YtbnnndfcaehlpaaGreatDoor

def push (slack : Int) (m : TTaxiMove) : TTaxiMove := if m.Leave - m.Hold - slack > 0 then ⟨m.Call, m.Push + (m.Leave - m.Hold - slack), m.Hold + (m.Leave - m.Hold - slack), m.Leave⟩ else m
theorem late_tot (n : Nat) (hn : 100 < n) (l : List TTaxiStand) (d : List TTaxiAsk) (gap slack : Int) (M : List TTaxiMove) (e : Int) (hq : g26 n l d gap = some (M, e)) (hM : e = 0 → QueueOk gap M ∧ M.length ≤ 1000 ∧ M.length < n) :
    ∃ r, g8 n l d gap slack = some r ∧ (r.2 ≠ 0 ∧ r.1 = [] ∨ r.2 = 0 ∧ e = 0 ∧ 0 ≤ slack ∧ r.1 = M.map (push slack)) := by
  unfold g8
  rw [hq]
  simp only [Option.bind_some]
  by_cases h0 : ¬ e = 0
  · refine ⟨([], e), ?_, .inl ⟨h0, rfl⟩⟩
    rw [show (e != 0) = true from bne_iff_ne.2 h0]; rfl
  have h0 : e = 0 := Decidable.of_not_not h0
  obtain ⟨hok, hl, hn'⟩ := hM h0
  subst h0
  by_cases g1 : slack < 0
  · exact ⟨([], 4), by simp [g1], .inl ⟨by decide, rfl⟩⟩
  by_cases g2 : slack > 1800
  · exact ⟨([], 4), by simp [g1, g2], .inl ⟨by decide, rfl⟩⟩
  rw [decide_eq_false g1, decide_eq_false g2]
  simp only [bne_self_eq_false, cond_false]
  refine ⟨(M.map (push slack), 0), ?_, .inr ⟨rfl, by trivial, by omega, rfl⟩⟩
  refine iterO_eq (fun x => ∃ i : Nat, i ≤ M.length ∧ x = ((i : Int), (M.take i).map (push slack) ++ M.drop i)) _ (fun x => M.length - x.1.toNat) ?_ n _ ⟨0, Nat.zero_le _, rfl⟩ (by simpa using hn')
  rintro _ ⟨i, hi, rfl⟩
  rcases Nat.lt_or_ge i M.length with hlt | hge
  · have hx : M[i]? = some M[i] := List.getElem?_eq_getElem hlt
    have htk : M.take (i + 1) = M.take i ++ [M[i]] := List.take_succ_eq_append_getElem hlt
    have hdr : M.drop i = M[i] :: M.drop (i + 1) := List.drop_eq_getElem_cons hlt
    generalize M[i] = x at hx htk hdr
    have hb := hok.each i x hx
    have e1 := wS (i := i) (by omega)
    have hlen : ((M.take i).map (push slack)).length = i := by simp; omega
    have hL : ∀ y r, getI ((M.take i).map (push slack) ++ y :: r) (i : Int) = some y := fun y r => by rw [getI_nat, List.getElem?_append_right (by omega), hlen]; simp
    have hS : ∀ y z r, ((M.take i).map (push slack) ++ y :: r).set i z = (M.take i).map (push slack) ++ z :: r := fun y z r => by rw [List.set_append_right _ _ (by omega), hlen]; simp
    refine .inl ⟨_, ?_, ⟨i + 1, hlt, rfl⟩, by simp; omega⟩
    rw [hdr, htk]
    unfold S8_0
    have w1 : IntKind.wrap .i64 (x.Leave - x.Hold) = x.Leave - x.Hold := wrap64 (by omega) (by omega)
    have w2 : IntKind.wrap .i64 (x.Leave - x.Hold - slack) = x.Leave - x.Hold - slack := wrap64 (by omega) (by omega)
    simp only [decide_eq_true (show (i : Int) < (M.length : Int) by omega), hL, hS, Int.toNat_natCast, e1, cond_true, Option.bind_some, w1, w2]
    by_cases h1 : x.Leave - x.Hold - slack > 0
    · have w3 : IntKind.wrap .i64 (x.Push + (x.Leave - x.Hold - slack)) = x.Push + (x.Leave - x.Hold - slack) := wrap64 (by omega) (by omega)
      have w4 : IntKind.wrap .i64 (x.Hold + (x.Leave - x.Hold - slack)) = x.Hold + (x.Leave - x.Hold - slack) := wrap64 (by omega) (by omega)
      have hp : push slack x = ⟨x.Call, x.Push + (x.Leave - x.Hold - slack), x.Hold + (x.Leave - x.Hold - slack), x.Leave⟩ := by rw [push, if_pos h1]
      rw [decide_eq_true h1, cond_true, w3, w4, List.map_append, List.map_cons, hp]
      simp
    · have hp : push slack x = x := by rw [push, if_neg h1]
      rw [decide_eq_false h1, cond_false, List.map_append, List.map_cons, hp]
      simp
  · have : i = M.length := by omega
    subst this
    right
    unfold S8_0
    simp [List.take_length]
/- the law -/
theorem push_ok (slack : Int) (m : TTaxiMove) (h0 : 0 ≤ slack) (h : m.Hold ≤ m.Leave) : (push slack m).Call = m.Call ∧ (push slack m).Leave = m.Leave ∧ m.Push ≤ (push slack m).Push ∧ (push slack m).Hold - (push slack m).Push = m.Hold - m.Push ∧ (push slack m).Hold ≤ m.Leave ∧ m.Leave - (push slack m).Hold ≤ slack ∧ m.Hold ≤ (push slack m).Hold := by
  unfold push
  split <;> simp <;> omega
end Go.Proofs.YtbnnndfcaehlpaaGreatDoor
