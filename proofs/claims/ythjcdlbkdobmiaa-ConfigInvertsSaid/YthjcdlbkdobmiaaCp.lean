/- config.copied in worlds: an own row of positions, whose second cells are own rows of texts. -/
import Derived.Test.YthjcdlbkdobmiaaCg
import Derived.Laws.OwnMore
set_option linter.unusedVariables false
set_option linter.unusedSimpArgs false
namespace Go.Proofs.Ythjcdlbkdobmiaa
open Go.RowKit Go.Shelf

def cellsG (ps : List (ByteArray × Value)) : List Value := ps.flatMap fun q => [.string q.1, q.2]
theorem cellsG_len (ps : List (ByteArray × Value)) : (cellsG ps).length = ps.length * 2 := by
  induction ps with
  | nil => rfl
  | cons q ps ih => unfold cellsG at *; rw [List.flatMap_cons, List.length_append, ih, List.length_cons]; simp; omega
theorem cellsG_at : ∀ {ps : List (ByteArray × Value)} {i : Nat} {q : ByteArray × Value}, ps[i]? = some q → (cellsG ps)[2 * i]? = some (.string q.1) ∧ (cellsG ps)[2 * i + 1]? = some q.2
  | a :: ps, 0, q, h => by cases h; exact ⟨rfl, rfl⟩
  | a :: ps, i + 1, q, h => by
    have := cellsG_at (ps := ps) (i := i) h
    rw [show 2 * (i + 1) = 2 * i + 1 + 1 by omega]
    exact this
theorem cellsG_set : ∀ (ps : List (ByteArray × Value)) (i : Nat) (p : ByteArray) (v v' : Value), ps[i]? = some (p, v) → (cellsG ps).set (2 * i + 1) v' = cellsG (ps.set i (p, v'))
  | a :: ps, 0, p, v, v', h => by cases h; rfl
  | a :: ps, i + 1, p, v, v', h => by
    rw [show 2 * (i + 1) + 1 = (2 * i + 1) + 1 + 1 by omega]
    have := cellsG_set ps i p v v' h
    show (Value.string a.1 :: a.2 :: cellsG ps).set ((2 * i + 1) + 1 + 1) v' = Value.string a.1 :: a.2 :: cellsG (ps.set i (p, v'))
    rw [List.set_cons_succ, List.set_cons_succ, this]
def txs (s : List ByteArray) : List Value := s.map Value.string
def rowT (w : World) (base : Nat) (v : Value) (s : List ByteArray) : Prop := w.ownsRow base 9 1 v s.length (txs s)
/- the rows of the first j positions are new -/
structure Cps (w0 w : World) (base gb j : Nat) (l : List TConfigGroup) (ps : List (ByteArray × Value)) : Prop where
  len : ps.length = l.length
  nam : ∀ (i : Nat) (x : TConfigGroup) q, l[i]? = some x → ps[i]? = some q → q.1 = x.Position
  new : ∀ (i : Nat) (x : TConfigGroup) q, l[i]? = some x → ps[i]? = some q → i < j → rowT w base q.2 x.Sectors
  old : ∀ (i : Nat) (x : TConfigGroup) q, l[i]? = some x → ps[i]? = some q → j ≤ i → VRel (cxA (fun k => w0.heap.size ≤ k) w0) (lstA strE x.Sectors) q.2
  sep : ∀ (i k : Nat) p q b, i < j → k < j → ps[i]? = some p → ps[k]? = some q → p.2.ownBlock = some b → q.2.ownBlock = some b → i = k
  out : gb < base
theorem rels_strs {c : Cx} : ∀ {s : List ByteArray} {cs : List Value}, Rels c (encs strE s) cs → cs = txs s
  | [], _, h => by cases h; rfl
  | a :: s, _, h => by
    rw [encs_cons] at h
    cases h with
    | cons h1 t =>
      cases h1
      rw [rels_strs t]; rfl
theorem own_other {w : World} {base : Nat} {e : TypeId} {sz n : Nat} {v : Value} {xs : List Value} (h : w.ownsRow base e sz v n xs) (a : Addr) (u : Value) (hb : v.ownBlock ≠ some a.block) : (w.setCell a u).ownsRow base e sz v n xs := by
  refine ⟨h.1, ?_⟩
  rcases h.2 with ⟨q1, q2⟩ | ⟨g, cap, cur, rfl, q2, q3, q4⟩
  · exact .inl ⟨q1, q2⟩
  · refine .inr ⟨g, cap, cur, rfl, q2, ?_, q4⟩
    rw [Below.heap_setCell _ _ _ _ (by intro e; exact hb (by rw [← e]; rfl))]
    exact q3
theorem cps_step {w0 W W' : World} {b0 base gb j : Nat} {l : List TConfigGroup} {ps : List (ByteArray × Value)} {cap : Nat} {x : TConfigGroup} {q : ByteArray × Value} {v' : Value} (h : Cps w0 W base gb j l ps) (hx : l[j]? = some x) (hq : ps[j]? = some q) (hk : Kept W W') (hbase : base ≤ W.heap.size)
    (hown : W.ownsRow b0 40 2 (.slice (some ⟨gb, 0, none⟩) l.length cap) l.length (cellsG ps)) (hv : rowT W' W.heap.size v' x.Sectors) :
    Cps w0 (W'.setCell ⟨gb, 2 * j + 1, none⟩ v') base gb (j + 1) l (ps.set j (q.1, v')) ∧ (W'.setCell ⟨gb, 2 * j + 1, none⟩ v').ownsRow b0 40 2 (.slice (some ⟨gb, 0, none⟩) l.length cap) l.length (cellsG (ps.set j (q.1, v'))) := by
  have hjl := (List.getElem?_eq_some_iff.1 hx).1
  have hjp := (List.getElem?_eq_some_iff.1 hq).1
  have hvb : ∀ b, v'.ownBlock = some b → W.heap.size ≤ b := fun b hb => own_ge hv b hb
  have hob := h.out
  have at_ne : ∀ {i : Nat} {r : ByteArray × Value}, i ≠ j → (ps.set j (q.1, v'))[i]? = some r → ps[i]? = some r := fun hi hr => by rwa [List.getElem?_set_ne (Ne.symm hi)] at hr
  have at_eq : ∀ {r : ByteArray × Value}, (ps.set j (q.1, v'))[j]? = some r → r = (q.1, v') := fun hr => by
    rw [List.getElem?_set_self hjp] at hr; cases hr; rfl
  have gnew : ∀ i r, i < j → ps[i]? = some r → ∀ b, r.2.ownBlock = some b → base ≤ b ∧ b < W.heap.size := fun i r hi hr b hb => by
    have hil : i < l.length := by omega
    exact (h.new i l[i] r (List.getElem?_eq_getElem hil) hr hi).lt b hb
  refine ⟨⟨by rw [List.length_set]; exact h.len, fun i y r hy hr => ?_, fun i y r hy hr hi => ?_, fun i y r hy hr hi => ?_, fun i k p r b hi hk' hp hr hb1 hb2 => ?_, hob⟩, ?_⟩
  · by_cases e : i = j
    · subst e
      rw [at_eq hr]
      rw [hx] at hy; cases hy
      exact h.nam i x q hx hq
    · exact h.nam i y r hy (at_ne e hr)
  · by_cases e : i = j
    · subst e
      rw [at_eq hr]
      rw [hx] at hy; cases hy
      refine own_other (own_le hv hbase) _ _ fun q => ?_
      have := hvb gb q
      omega
    · have hr' := at_ne e hr
      refine own_other (own_kept (h.new i y r hy hr' (by omega)) hk) _ _ fun q => ?_
      have := (gnew i r (by omega) hr' gb q).1
      omega
  · exact h.old i y r hy (at_ne (by omega) hr) (by omega)
  · by_cases e : i = j <;> by_cases e' : k = j
    · omega
    · subst e
      rw [at_eq hp] at hb1
      have := hvb b hb1
      have := (gnew k r (by omega) (at_ne e' hr) b hb2).2
      omega
    · subst e'
      rw [at_eq hr] at hb2
      have := hvb b hb2
      have := (gnew i p (by omega) (at_ne e hp) b hb1).2
      omega
    · exact h.sep i k p r b (by omega) (by omega) (at_ne e hp) (at_ne e' hr) hb1 hb2
  · have := (own_kept hown hk).stored (2 * j + 1) v'
    rw [cellsG_set ps j q.1 q.2 v' hq] at this
    exact this.1
/- the row of positions as it is after slices.Clone -/
theorem cps_start {w0 W : World} {base gb : Nat} (hg : gb < base) : ∀ {l : List TConfigGroup} {cs : List Value}, Rels (cxA (fun k => w0.heap.size ≤ k) w0) (encs TConfigGroup.E l) cs → ∃ ps, cs = cellsG ps ∧ Cps w0 W base gb 0 l ps
  | [], _, h => by
    cases h
    exact ⟨[], rfl, rfl, (by simp), (by simp), (by simp), (fun _ _ _ _ _ h => by omega), hg⟩
  | x :: l, _, h => by
    rw [encs_cons] at h
    cases h with
    | cons h1 t =>
    cases t with
    | cons h2 t =>
    obtain ⟨ps, rfl, hc⟩ := cps_start (w0 := w0) (W := W) hg t
    cases h1
    refine ⟨(x.Position, _) :: ps, rfl, ⟨by simp [hc.len], fun i y q hy hq => ?_, fun i y q _ _ h => by omega, fun i y q hy hq _ => ?_, fun _ _ _ _ _ h => by omega, hg⟩⟩
    · cases i with
      | zero => cases hy; cases hq; rfl
      | succ i => exact hc.nam i y q hy hq
    · cases i with
      | zero => cases hy; cases hq; exact h2
      | succ i => exact hc.old i y q hy hq (Nat.zero_le _)
end Go.Proofs.Ythjcdlbkdobmiaa
