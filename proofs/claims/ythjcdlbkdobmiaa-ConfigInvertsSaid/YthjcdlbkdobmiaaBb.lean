/- Walks with boxes: small laws. -/
import Derived.Test.YthjcdlbkdobmiaaKn
import Derived.WalkSpells
import Derived.WalkLawsBesides
import Derived.RegionTactic
import Derived.ChangeAlike
import Derived.Lib.Hide
import Derived.Handy
import Derived.Deep.RegionWith
import Derived.Deep.RegionHeldLaw
import Derived.Deep.QuietTactic
import Derived.BigQuiet
import Derived.OneCell
import Derived.Lib.SliceRun
import Derived.LoopTactic
set_option linter.unusedVariables false
set_option linter.unusedSimpArgs false
namespace Go.Proofs.Ythjcdlbkdobmiaa
open Go.RowKit Go.Shelf

abbrev Bx (w : World) (b : Nat) (T : TypeId) (v : Value) : Prop := w.heap[b]? = some (.cells #[v] T (0, 0))
theorem Bx.cell {w : World} {b : Nat} {T : TypeId} {v : Value} (h : Bx w b T v) : w.cell? ⟨b, 0, none⟩ = some v := by unfold Bx at h; simp [World.cell?, h]
theorem Bx.frozen {w : World} {b : Nat} {T : TypeId} {v : Value} (h : Bx w b T v) : w.frozen? ⟨b, 0, none⟩ = false := by unfold Bx at h; simp [World.frozen?, h]
theorem set_block {w : World} {g : Nat} {cur : Array Value} {T : TypeId} (h : w.heap[g]? = some (.cells cur T (0, 0))) (k : Nat) (v : Value) : (w.setCell ⟨g, k, none⟩ v).heap[g]? = some (.cells (cur.setIfInBounds k v) T (0, 0)) := by
  unfold World.setCell
  simp only [Array.getElem?_modify, h]
  simp
theorem Bx.set {w : World} {b : Nat} {T : TypeId} {v : Value} (h : Bx w b T v) (u : Value) : Bx (w.setCell ⟨b, 0, none⟩ u) b T u := by
  have := set_block h 0 u
  unfold Bx
  rw [this]
  rfl
theorem Bx.other {w : World} {b : Nat} {T : TypeId} {v : Value} (h : Bx w b T v) {k : Nat} (hk : b ≠ k) (u : Value) : Bx (w.setCell ⟨k, 0, none⟩ u) b T v := by
  unfold Bx at *; rw [Below.heap_setCell _ _ _ _ hk]; exact h
theorem int_of2 {c : Cx} {z : Int} {v : Value} (h : VRel c (intA z) v) : v = .int .i64 z := by cases h; rfl
theorem Kno.mono {no no' : Nat → Prop} {w w' : World} (h : Kno no w w') (hs : ∀ k, no k → no' k) : Kno no' w w' := ⟨h.os, h.tape, h.output, h.size, fun k hk hb => h.blk k hk (fun q => hb (hs k q)), h.drawn⟩
theorem lst_open {α : Type} {E : En α} {no : Nat → Prop} {w : World} {l : List α} {v : Value} (h : VRel (cxA no w) (lstA E l) v) (hl : l ≠ []) : ∃ b off cap, v = .slice (some ⟨b, off, none⟩) l.length cap ∧ b < w.heap.size ∧ ¬ no b ∧ ∀ (i : Nat) (x : α), l[i]? = some x → ∀ (j : Nat) (u : Value), j < E.size → (E.enc x)[j]? = some (.sc u) → w.cell? ⟨b, off + (i * E.size + j), none⟩ = some u := by
  unfold lstA at h
  generalize hcs : encs E l = cs at h
  generalize hq : l.length = q at h
  cases h with
  | lst0 a cap ex he hm hn => exact absurd (List.eq_nil_of_length_eq_zero hq) hl
  | lst hb h hc hn he hm =>
    refine ⟨_, _, _, rfl, hb.1, hb.2.2, fun i x hx j u hj hu => ?_⟩
    subst hcs
    have h1 := encs_at (E := E) hx j hj
    rw [hu] at h1
    obtain ⟨v', g1, g2⟩ := h.get h1
    cases g2
    exact hc _ _ g1
theorem Kept.drew {w w' : World} (h : Kept w w') : Kept w w'.drew := ⟨h.os, h.tape, h.output, h.size, h.blk, Nat.le_trans h.drawn (dr_le (Nat.le_succ _))⟩
theorem Kept.drewN {w w' : World} (h : Kept w w') (n : Nat) : Kept w (w'.drewN n) := ⟨h.os, h.tape, h.output, h.size, h.blk, Nat.le_trans h.drawn (dr_le (Nat.le_add_right _ _))⟩
theorem says_kw {P : Program} {gl : Nat → Option (List AV)} {f : FuncId} {args : List AV} {v : AV} (h : Says P gl f args v) {no : Nat → Prop} {w : World} (hn : ∀ b, no b → b < w.heap.size) (hgl : ∀ w, GlobOk gl (cxA no w)) {vals : List Value} (hr : Rels (cxA no w) args vals) (W : World) (hk : Kept w W) :
    Calls P f vals.toArray W (fun e w' => ∃ v', e = .returned v' ∧ Kept w w' ∧ VRel (cxA no w') v v') :=
  (callsIn_wide.1 (says_kn h (fun b hb => Nat.lt_of_lt_of_le (hn b hb) hk.size) (hgl W) ((hk.kno no).rels hr h.1) 0)).mono fun e w' ⟨v', h1, h2, h3⟩ => ⟨v', h1, hk.trans h2, h3⟩
theorem Kept.cell {w w' : World} (h : Kept w w') {a : Addr} (ha : a.block < w.heap.size) : w'.cell? a = w.cell? a := by simp [World.cell?, h.blk _ ha]
theorem slice_lenE {α : Type} {E : En α} {c : Cx} {o : List α} {v : Value} (hr : VRel c (lstA E o) v) : ∃ a cap, v = .slice a o.length cap := by
  unfold lstA at hr
  generalize hcs : encs E o = cs at hr
  generalize hq : o.length = q at hr
  cases hr with
  | lst0 a cap ex he hm hn => exact ⟨_, _, rfl⟩
  | lst hb h hc hn he hm => exact ⟨_, _, rfl⟩
theorem Bx.new (w : World) (T : TypeId) (v : Value) : Bx (w.alloc (.cells #[v] T)) w.heap.size T v := World.alloc_heap_new _ _
theorem Bx.alloc {w : World} {b : Nat} {T : TypeId} {v : Value} (h : Bx w b T v) (o : Obj) : Bx (w.alloc o) b T v := (Below.heap_alloc w o b (heap_lt h)).trans h
theorem Bx.kept {w w' : World} {b : Nat} {T : TypeId} {v : Value} (h : Bx w b T v) (k : Kept w w') : Bx w' b T v := (k.blk b (heap_lt h)).trans h
theorem Kept.al {w w' : World} (h : Kept w w') (o : Obj) : Kept w (w'.alloc o) := h.trans (Kept.alloc _ _)
theorem Kept.set {w w' : World} (h : Kept w w') (a : Addr) (ha : w.heap.size ≤ a.block) (v : Value) : Kept w (w'.setCell a v) :=
  ⟨h.os, h.tape, h.output, by have := h.size; simpa using this, fun k hk => by rw [Below.heap_setCell _ _ _ _ (by omega)]; exact h.blk k hk, h.drawn⟩
theorem slice_len {c : Cx} {o : List Int} {v : Value} (hr : VRel c (lstA intE o) v) : ∃ a cap, v = .slice a o.length cap := by
  unfold lstA at hr
  generalize hcs : encs intE o = cs at hr
  generalize hq : o.length = q at hr
  cases hr with
  | lst0 a cap ex he hm hn => exact ⟨_, _, rfl⟩
  | lst hb h hc hn he hm => exact ⟨_, _, rfl⟩
theorem bool_of {c : Cx} {b : Bool} {v : Value} (h : VRel c (boolA b) v) : v = .bool b := by cases h; rfl
theorem new1 (w : World) (x : Value) (T : TypeId) : ∀ j u, ([x] : List Value)[j]? = some u → (w.alloc (.cells #[x] T)).cell? ((⟨w.heap.size, 0, none⟩ : Addr).add j) = some u := by
  intro j u hu
  have hh : (w.alloc (.cells #[x] T)).heap[w.heap.size]? = some (.cells #[x] T (0, 0)) := World.alloc_heap_new w _
  rw [show (⟨w.heap.size, 0, none⟩ : Addr).add j = ⟨w.heap.size, j, none⟩ by unfold Addr.add; split <;> simp_all]
  match j, hu with
  | 0, hu => simp only [World.cell?, hh]; simpa using hu
  | j + 1, hu => simp at hu
theorem kept_grown {w w3 w4 : World} {o : Obj} {row : Option Nat} (hk : Kept w w3) (hg : (w3.alloc o).grownBy w4 row) (hr : ∀ b, row = some b → w.heap.size ≤ b) (hd : w3.drawn ≤ w4.drawn) : Kept w w4 := by
  have hs := hk.size
  refine ⟨hg.os.trans hk.os, hg.tape.trans hk.tape, hg.output.trans hk.output, by have := hg.size; simp at this; omega, fun k hlt => ?_, Nat.le_trans hk.drawn (dr_le hd)⟩
  exact (hg.block k (by simp; omega) (fun e => by have := hr k e.symm; omega)).trans ((Below.heap_alloc _ _ k (by omega)).trans (hk.blk k hlt))
theorem row_rel {no : Nat → Prop} {base : Nat} {w : World} {v : Value} {r : List Int} (hn : ∀ b, no b → b < base) (hrow : w.ownsRow base 3 1 v r.length (r.map (Value.int .i64))) : VRel (cxA no w) (lstA intE r) v := by
  rcases hrow.2 with ⟨hv0, hl0⟩ | ⟨gb, cap, cur, rfl, hbg, hg, hle, hmx, hsz, htk⟩
  · rw [hv0, List.eq_nil_of_length_eq_zero hl0]
    exact .lst0 none 0 false (fun h => by cases h) (Nat.zero_le _) (fun _ => rfl)
  · refine .lst (b := gb) (o := 0) (vs := r.map (Value.int .i64)) ⟨heap_lt hg, cxA_own _, fun q => ?_⟩ ?_ (fun k u hu => ?_) hle (fun h => by cases h) hmx
    · have := hn gb q
      omega
    · have : ∀ r : List Int, Rels (cxA no w) (encs intE r) (r.map (Value.int .i64)) := by
        intro r
        induction r with
        | nil => exact .nil
        | cons x r ih => rw [encs_cons]; exact .cons (.sc _ rfl) ih
      exact this r
    · have := hrow.cells (g := gb) rfl k u hu
      rw [Nat.zero_add]
      rwa [show (⟨gb, 0, none⟩ : Addr).add k = ⟨gb, k, none⟩ by unfold Addr.add; split <;> simp_all] at this
theorem encs_int {c : Cx} : ∀ {r : List Int} {vs : List Value}, Rels c (encs intE r) vs → vs = r.map (Value.int .i64)
  | [], vs, h => by cases h; rfl
  | x :: r, vs, h => by
    rw [encs_cons] at h
    cases h with
    | cons h t => cases h; rw [encs_int t]; rfl
/- cells of a list's elements, with their values -/
theorem lst_openV {α : Type} {E : En α} {no : Nat → Prop} {w : World} {l : List α} {v : Value} (h : VRel (cxA no w) (lstA E l) v) (hl : l ≠ []) : ∃ b off cap, v = .slice (some ⟨b, off, none⟩) l.length cap ∧ b < w.heap.size ∧ ¬ no b ∧ ∀ (i : Nat) (x : α), l[i]? = some x → ∀ (j : Nat) (u : AV), j < E.size → (E.enc x)[j]? = some u → ∃ y, w.cell? ⟨b, off + (i * E.size + j), none⟩ = some y ∧ VRel (cxA no w) u y := by
  unfold lstA at h
  generalize hcs : encs E l = cs at h
  generalize hq : l.length = q at h
  cases h with
  | lst0 a cap ex he hm hn => exact absurd (List.eq_nil_of_length_eq_zero hq) hl
  | lst hb h hc hn he hm =>
    refine ⟨_, _, _, rfl, hb.1, hb.2.2, fun i x hx j u hj hu => ?_⟩
    subst hcs
    have h1 := encs_at (E := E) hx j hj
    rw [hu] at h1
    obtain ⟨v', g1, g2⟩ := h.get h1
    exact ⟨v', hc _ _ g1, g2⟩
/- an append to a row of the run's own, as a step of a region that draws -/
theorem step_append_d {P : Program} {ops : Array Oper} {o : Oper} {a : Act} {w : World} {K : Act → World → Prop} {Q : Exit → Act → World → Prop} {E : Prop}
    (hg : o.guard = none) (s x : Operand) (t : TypeId) (hop : o.op = Op.call { callee := Callee.builtin Builtin.append, args := #[s, x], argTypes := #[t, t] })
    (base : Nat) (e : TypeId) (i : TypeInfo) (z : Value) (size bytes : Nat) (h1 : P.underlying t = some (.slice e)) (h2 : P.info? e = some i) (h3 : i.zero = some z) (h4 : i.size = size) (h5 : i.bytes = bytes) (h6 : z.cells.size = size) (h7 : 0 < size)
    (v : Value) (k : Nat) (xs : List Value) (hs : a.eval s = v) (hown : w.ownsRow base e size v k xs) (ad : Addr) (m c : Nat) (news : List Value) (hx : a.eval x = .slice (some ad) m c) (hn : news.length = m * size)
    (hc : ∀ j u, news[j]? = some u → w.cell? (ad.add j) = some u) (h1c : ∀ u ∈ news, u.oneCell' = true) (b1 : k + m ≤ maxLen) (b2 : (k + m) * bytes ≤ 140737488355328) (b3 : base ≤ w.heap.size)
    (hK : ∀ v' w', w'.ownsRow base e size v' (k + m) (xs ++ news) → w.grownBy w' v.ownBlock → w.drawn ≤ w'.drawn → K (a.put o.dst v') w') :
    if Region.wanted o (yielded ops a.tmps) = true then Oper.wp P o a w K Q else E := by
  have hw : Region.wanted o (yielded ops a.tmps) = true := by simp [Region.wanted, hg]
  rw [if_pos hw]
  obtain ⟨v', w', hrun, r1, r2, r3⟩ := run_append_own (P := P) w base t o.type e i z size bytes h1 h2 h3 h4 h5 h6 h7 v k xs hown ad m c news hn hc h1c b1 b2 b3
  have hd := run_drawn P _ _ _ _ hrun
  unfold Oper.wp
  simp [execOp, hop, resolve, invoke, builtin, hs, hx, hrun, Result.andThen]
  exact hK v' w' r1 r2 hd
end Go.Proofs.Ythjcdlbkdobmiaa
