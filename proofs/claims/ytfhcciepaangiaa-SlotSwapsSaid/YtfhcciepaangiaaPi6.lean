/- Each operation does in a world what the plain evaluator says (second part). -/
import Derived.Test.YtfhcciepaangiaaPi5
set_option linter.unusedVariables false
set_option linter.unusedSimpArgs false
namespace Go.Proofs.Ytfhcciepaangiaa
open Go.RowKit

section
variable {P : Program} {B n : Nat} {c : Cx} {ev : Operand → Value} {ρ : Operand → Option AV} {look : Nat → Option ABlk} {o : Oper}

theorem ok_move (g : Good B c) {x : Operand} (ho : o.op = .move x ∨ o.op = .assign x) {y : AV} (hx : VRel c y (ev x)) : OpOk P B n c (execOp ev o) y [] := by
  rcases ho with ho | ho <;> exact .still g (by simp only [execOp, ho, Sem.run_pure]) hx
theorem ok_pick (g : Good B c) {t a b : Operand} (ho : o.op = .pick t a b) {q : Bool} (ht : VRel c (.sc (.bool q)) (ev t)) {x : AV} (hx : VRel c x (ev (bif q then a else b))) : OpOk P B n c (execOp ev o) x [] := by
  have et : ev t = .bool q := by generalize ev t = u at ht; cases ht; rfl
  refine .still g (v' := ev (bif q then a else b)) ?_ hx
  cases q <;> simp [execOp, ho, et, asBool]
theorem new_ptr {arr : Array Value} {T : TypeId} {cells : List AV} : VRel (c.new n arr T cells) (.ptr n 0) (.pointer (some ⟨c.w.heap.size, 0, none⟩)) := by
  have h : (c.new n arr T cells).f n = c.w.heap.size := by simp [Cx.new]
  have := VRel.ptr (c := c.new n arr T cells) (id := n) (.inr rfl) 0
  rwa [h] at this
theorem ok_alloc (g : Good B c) (hn : ¬ c.al n) {t : TypeId} (ho : o.op = .alloc t) {cs : List AV} (h : (tzero P t).bind (fun z => (ofVal z).bind acells) = some cs) : OpOk P B n c (execOp ev o) (.ptr n 0) [(n, some ⟨cs, t⟩)] := by
  obtain ⟨z, hz, h⟩ := Option.bind_eq_some_iff.1 h
  obtain ⟨x, hx, h⟩ := Option.bind_eq_some_iff.1 h
  have hr := acells_rel (ofVal_rel hx c) h
  refine .made g hn (arr := z.cells) (rest := []) (by simp) hr ?_ new_ptr
  simp [execOp, ho, Instr.alloc, run_zero hz, newVar, newRow, newObj]; rfl
theorem ok_box (g : Good B c) (hn : ¬ c.al n) {t : TypeId} {x : Operand} (ho : o.op = .box t x) {y : AV} (hx : VRel c y (ev x)) {cs : List AV} (h : acells y = some cs) : OpOk P B n c (execOp ev o) (.ptr n 0) [(n, some ⟨cs, t⟩)] := by
  have hr := acells_rel hx h
  refine .made g hn (arr := (ev x).cells) (rest := []) (by simp) hr ?_ new_ptr
  simp [execOp, ho, Instr.box, newVar, newRow, newObj]; rfl

theorem aput_rel {cs : List AV} {vs : List Value} {ncs : List AV} {new : List Value} (hr : Rels c cs vs) (hn : Rels c ncs new) (off : Nat) : Rels c (aput cs off ncs) (vs.take off ++ new ++ vs.drop (off + new.length)) := by
  unfold aput
  rw [hn.length]
  exact ((hr.take off).append hn).append (hr.drop _)
theorem OpOk.wrote (g : Good B c) {id : Nat} {b : ABlk} (hM : c.M id = some b) {arr : Array Value} {vs rest : List Value} (ho : c.w.heap[c.f id]? = some (.cells arr b.ty)) (h1 : arr.toList = vs ++ rest) (hr : Rels c b.cells vs)
    {off : Nat} {new : List Value} {ncs : List AV} (hle : off + new.length ≤ vs.length) (hnew : Rels c ncs new) {s : Sem Next} {nx : Next} {v : AV} {v' : Value}
    (hrun : s.run P c.w = .ok nx (c.w.setRow (c.f id) (arr.toList.take off ++ new ++ arr.toList.drop (off + new.length)).toArray)) (hnx : nx = .value v' ∨ (nx = .skip ∧ v' = undef))
    (hv : ∀ c' : Cx, Step c c' → VRel c' v v') : OpOk P B n c s v [(id, some ⟨aput b.cells off ncs, b.ty⟩)] := by
  have hal : (vs ++ rest).length = arr.size := by rw [← h1]; simp
  have e0 : arr.toList.take off ++ new ++ arr.toList.drop (off + new.length) = (vs.take off ++ new ++ vs.drop (off + new.length)) ++ rest := by
    rw [h1, List.take_append_of_le_length (by omega), List.drop_append_of_le_length hle]; simp
  have hs : (arr.toList.take off ++ new ++ arr.toList.drop (off + new.length)).toArray.size = arr.size := by
    rw [e0]; simp at hal ⊢; omega
  have st := put_step (n := n) g hM ho hs b.ty (aput b.cells off ncs)
  exact ⟨nx, v', c.put n id _ b.ty (aput b.cells off ncs), hrun, hnx, hv _ st, st, put_good g hM ho hs (vs := vs.take off ++ new ++ vs.drop (off + new.length)) (rest := rest) (by simpa using e0) (aput_rel hr hnew off), fun _ => Iff.rfl, fun _ => rfl⟩
theorem ok_store (g : Good B c) (hl : ∀ id b, look id = some b → c.M id = some b) {t : TypeId} {a x : Operand} (ho : o.op = .store t a x) {p y v : AV} {d : Wr} (hp : VRel c p (ev a)) (hy : VRel c y (ev x)) (h : aStore P look t p y = some (v, d)) : OpOk P B n c (execOp ev o) v d := by
  unfold aStore at h
  split at h
  · rename_i id off cs sz hcs hsz
    cases hb : look id with
    | none => simp [hb] at h
    | some b =>
      simp only [hb] at h
      cases hc : (Nat.beq cs.length sz && Nat.ble (off + cs.length) b.cells.length && cs.all isCell) with
      | false => simp [hc] at h
      | true =>
        simp only [hc, cond_true, Option.some.injEq, Prod.mk.injEq] at h
        obtain ⟨rfl, rfl⟩ := h
        simp only [Bool.and_eq_true] at hc
        obtain ⟨⟨h1, h2⟩, h3⟩ := hc
        obtain ⟨arr, vs, rest, k1, k2, k3, -⟩ := g.cells (hl id b hb)
        have hr := acells_rel hy hcs
        have hlen : (ev x).cells.toList.length = sz := by rw [← hr.length]; exact Nat.eq_of_beq_eq_true h1
        have hle : off + (ev x).cells.toList.length ≤ vs.length := by rw [← hr.length, ← k3.length]; exact Nat.le_of_ble_eq_true h2
        have ea : ev a = .pointer (some ⟨c.f id, off, none⟩) := by generalize ev a = u at hp; cases hp; rfl
        have hal : (vs ++ rest).length = arr.size := by rw [← k2]; simp
        have hst := run_storeCells_at P (c.f id) off b.ty (ev x).cells.toList 0 arr c.w k1 (by simp at hal hle ⊢; omega) (cells_one hr h3)
        refine .wrote g (hl id b hb) k1 k2 k3 (new := (ev x).cells.toList) hle hr (nx := .skip) (v' := undef) ?_ (.inr ⟨rfl, rfl⟩) (fun c' _ => .und _)
        simp only [Nat.add_zero] at hst
        have hlen' : (ev x).cells.size = sz := by simpa using hlen
        simp only [execOp, ho, Instr.storeAt, ea, Instr.sureAddr, Sem.run_bind, Sem.run_pure, Result.andThen_ok, storeVar, run_size hsz, hlen', ne_eq, not_true_eq_false, if_false, hst]
  · cases h
theorem ok_fieldAddr (g : Good B c) {t : TypeId} {x : Operand} {fi : Nat} (ho : o.op = .fieldAddr t x fi) {y v : AV} {d : Wr} (hy : VRel c y (ev x)) (h : aField P t fi y = some (v, d)) : OpOk P B n c (execOp ev o) v d := by
  unfold aField at h
  split at h
  · rename_i id off
    split at h
    · rename_i fs hu
      split at h
      · rename_i fd hf
        split at h
        · rename_i k hs
          simp only [Option.some.injEq, Prod.mk.injEq] at h
          obtain ⟨rfl, rfl⟩ := h
          generalize hev : ev x = u at hy
          cases hy with
          | ptr ha off =>
            refine .still g (v' := .pointer (some ⟨c.f id, off + fd.offset, none⟩)) ?_ (.ptr ha _)
            simp [execOp, ho, Instr.fieldAt, hev, run_underlying hu, hf, Instr.sureAddr, fieldPlace, run_size hs, Addr.add_lit]
        · cases h
      · cases h
    · cases h
  · rename_i cs off
    split at h
    · rename_i fs hu
      split at h
      · rename_i fd hf
        split at h
        · rename_i k hs
          simp only [Option.some.injEq, Prod.mk.injEq] at h
          obtain ⟨rfl, rfl⟩ := h
          generalize hev : ev x = u at hy
          cases hy with
          | ept hb hr hc off =>
            rename_i b o' vs
            refine .still g (v' := .pointer (some ⟨b, o' + (off + fd.offset), none⟩)) ?_ (.ept hb hr hc _)
            simp [execOp, ho, Instr.fieldAt, hev, run_underlying hu, hf, Instr.sureAddr, fieldPlace, run_size hs, Addr.add_lit, Nat.add_assoc]
        · cases h
      · cases h
    · cases h
  · cases h
theorem elem_cells {b o sz : Nat} {vs : List Value} {w : World} (hc : CellsAt w b o vs) (i : Nat) : CellsAt w b (o + i * sz) ((vs.drop (i * sz)).take sz) := by
  intro k v hv
  rw [List.getElem?_take] at hv
  split at hv
  · rw [List.getElem?_drop] at hv
    have := hc _ v hv
    rwa [← Nat.add_assoc] at this
  · cases hv
theorem ok_indexAddr (g : Good B c) {t : TypeId} {x i : Operand} (ho : o.op = .indexAddr t x i) {y z v : AV} {d : Wr} (hy : VRel c y (ev x)) (hz : VRel c z (ev i)) (h : aIndexAddr P t y z = some (v, d)) : OpOk P B n c (execOp ev o) v d := by
  unfold aIndexAddr at h
  split at h
  · rename_i kk z
    have ei : ev i = .int kk z := by generalize ev i = u at hz; cases hz; rfl
    split at h
    · rename_i e hu
      split at h
      · rename_i sz hs
        split at h
        · rename_i id off esz m cap ex
          cases hq : (decide (0 ≤ z) && decide (z < (m : Int))) with
          | false => simp [hq] at h
          | true =>
            simp only [hq, cond_true, Option.some.injEq, Prod.mk.injEq] at h
            obtain ⟨rfl, rfl⟩ := h
            simp only [Bool.and_eq_true, decide_eq_true_eq] at hq
            generalize hev : ev x = u at hy
            cases hy with
            | sl ha hb hs' hn hc he hm =>
              refine .still g (v' := .pointer (some ⟨c.f id, off + z.toNat * sz, none⟩)) ?_ (.ptr ha _)
              simp [execOp, ho, Instr.indexAt, hev, ei, asIntOf, run_underlying hu, hq.1, hq.2, run_size hs, Addr.add_lit]
        · rename_i m cs ex
          cases hq : (decide (0 ≤ z) && decide (z < (m : Int))) with
          | false => simp [hq] at h
          | true =>
            simp only [hq, cond_true, Option.some.injEq, Prod.mk.injEq] at h
            obtain ⟨rfl, rfl⟩ := h
            simp only [Bool.and_eq_true, decide_eq_true_eq] at hq
            generalize hev : ev x = u at hy
            cases hy with
            | lst0 a cap ex he hm hn => simp at hq; omega
            | lst hb hr hc hn he hm =>
              rename_i b o' vs cap
              refine .still g (v' := .pointer (some ⟨b, o' + z.toNat * sz + 0, none⟩)) ?_ (.ept hb ((hr.drop _).take _) (elem_cells hc _) 0)
              simp [execOp, ho, Instr.indexAt, hev, ei, asIntOf, run_underlying hu, hq.1, hq.2, run_size hs, Addr.add_lit]
        · cases h
      · cases h
    · rename_i len e hu
      split at h
      · rename_i sz hs
        split at h
        · rename_i id off
          cases hq : (decide (0 ≤ z) && decide (z < (len : Int))) with
          | false => simp [hq] at h
          | true =>
            simp only [hq, cond_true, Option.some.injEq, Prod.mk.injEq] at h
            obtain ⟨rfl, rfl⟩ := h
            simp only [Bool.and_eq_true, decide_eq_true_eq] at hq
            generalize hev : ev x = u at hy
            cases hy with
            | ptr ha off =>
              refine .still g (v' := .pointer (some ⟨c.f id, off + z.toNat * sz, none⟩)) ?_ (.ptr ha _)
              simp [execOp, ho, Instr.indexAt, hev, ei, asIntOf, run_underlying hu, hq.1, hq.2, run_size hs, Addr.add_lit, Instr.sureAddr]
        · rename_i cs off
          cases hq : (decide (0 ≤ z) && decide (z < (len : Int))) with
          | false => simp [hq] at h
          | true =>
            simp only [hq, cond_true, Option.some.injEq, Prod.mk.injEq] at h
            obtain ⟨rfl, rfl⟩ := h
            simp only [Bool.and_eq_true, decide_eq_true_eq] at hq
            generalize hev : ev x = u at hy
            cases hy with
            | ept hb hr hc off =>
              rename_i b o' vs
              refine .still g (v' := .pointer (some ⟨b, o' + (off + z.toNat * sz), none⟩)) ?_ (.ept hb hr hc _)
              simp [execOp, ho, Instr.indexAt, hev, ei, asIntOf, run_underlying hu, hq.1, hq.2, run_size hs, Addr.add_lit, Instr.sureAddr, Nat.add_assoc]
        · cases h
      · cases h
    · cases h
  · cases h
theorem part_ok {cs : List AV} {vs : List Value} (hr : Rels c cs vs) {t : TypeId} {off : Nat} {x : AV} (h : apart P t cs off = some x) (w : World) : ∃ v', (part t vs.toArray off).run P w = .ok v' w ∧ VRel c x v' := by
  unfold apart at h
  cases hu : P.underlying t with
  | none => simp [hu] at h
  | some d =>
    simp only [hu] at h
    cases hg : isAggD d with
    | true =>
      rw [hg] at h
      simp only [cond_true] at h
      cases hz : tsize P t with
      | none => simp [hz] at h
      | some k =>
        simp only [hz] at h
        cases hb : Nat.ble (off + k) cs.length with
        | false => simp [hb] at h
        | true =>
          simp only [hb, cond_true, Option.some.injEq] at h
          subst h
          refine ⟨.agg ((vs.drop off).take k).toArray, ?_, .agg ((hr.drop off).take k)⟩
          have e : vs.toArray.extract off (off + k) = ((vs.drop off).take k).toArray := by apply Array.ext'; simp [List.drop_take]
          simp only [part, Sem.run_bind, run_isAggD hu, Result.andThen_ok, hg, if_true, run_size hz, Sem.run_pure, e]
    | false =>
      rw [hg] at h
      simp only [cond_false] at h
      obtain ⟨v', hv, hx⟩ := hr.get h
      refine ⟨v', ?_, hx⟩
      simp [part, Sem.run_bind, run_isAggD hu, Result.andThen_ok, hg, hv]
theorem ok_field (g : Good B c) {t : TypeId} {x : Operand} {fi : Nat} (ho : o.op = .field t x fi) {y v : AV} {d : Wr} (hy : VRel c y (ev x)) (h : aFieldV P t fi y = some (v, d)) : OpOk P B n c (execOp ev o) v d := by
  unfold aFieldV at h
  split at h
  · rename_i cs
    split at h
    · rename_i fs hu
      split at h
      · rename_i fd hf
        obtain ⟨y', hy', he⟩ := Option.map_eq_some_iff.1 h
        simp only [Prod.mk.injEq] at he
        obtain ⟨rfl, rfl⟩ := he
        generalize hev : ev x = u at hy
        cases hy with
        | agg hr =>
          obtain ⟨v', hrun, hv⟩ := part_ok hr hy' c.w
          refine .still g (v' := v') ?_ hv
          simp [execOp, ho, Instr.field, hev, run_underlying hu, hf, asAgg, hrun]
      · cases h
    · cases h
  · cases h
theorem ok_index (g : Good B c) {t : TypeId} {x i : Operand} (ho : o.op = .index t x i) {y z v : AV} {d : Wr} (hy : VRel c y (ev x)) (hz : VRel c z (ev i)) (h : aIndexV P t y z = some (v, d)) : OpOk P B n c (execOp ev o) v d := by
  unfold aIndexV at h
  split at h
  · rename_i cs kk z
    have ei : ev i = .int kk z := by generalize ev i = u at hz; cases hz; rfl
    split at h
    · rename_i len e hu
      split at h
      · rename_i sz hs
        cases hq : (decide (0 ≤ z) && decide (z < (len : Int))) with
        | false => simp [hq] at h
        | true =>
          simp only [hq, cond_true] at h
          obtain ⟨y', hy', he⟩ := Option.map_eq_some_iff.1 h
          simp only [Prod.mk.injEq] at he
          obtain ⟨rfl, rfl⟩ := he
          simp only [Bool.and_eq_true, decide_eq_true_eq] at hq
          generalize hev : ev x = u at hy
          cases hy with
          | agg hr =>
            obtain ⟨v', hrun, hv⟩ := part_ok hr hy' c.w
            refine .still g (v' := v') ?_ hv
            simp [execOp, ho, Instr.index, hev, ei, asIntOf, run_underlying hu, hq.1, hq.2, run_size hs, hrun]
      · cases h
    · cases h
  · cases h
theorem ok_extract (g : Good B c) {x : Operand} {i : Nat} (ho : o.op = .extract x i) {vs : List AV} (hy : VRel c (.tup vs) (ev x)) {v : AV} (h : vs[i]? = some v) : OpOk P B n c (execOp ev o) v [] := by
  generalize hev : ev x = u at hy
  cases hy with
  | tup hr =>
    obtain ⟨v', hv, hx⟩ := hr.get h
    refine .still g (v' := v') ?_ hx
    simp [execOp, ho, Instr.extract, hev, hv]
def isAt : AV → Bool
  | .ptr .. | .ept .. | .fn .. => true
  | _ => false
theorem ok_nilCheck (g : Good B c) {x : Operand} (ho : o.op = .nilCheck x) {y : AV} (hy : VRel c y (ev x)) (h : isAt y = true) : OpOk P B n c (execOp ev o) y [] := by
  generalize hev : ev x = u at hy
  cases hy with
  | ptr ha off => exact .still g (by simp [execOp, ho, hev]) (.ptr ha off)
  | ept hb hr hc off => exact .still g (by simp [execOp, ho, hev]) (.ept hb hr hc off)
  | fn f hr => exact .still g (by simp [execOp, ho, hev]) (.fn f hr)
  | _ => simp [isAt] at h
theorem opts_rel {l : List Operand} (hρ : ∀ x ∈ l, ∀ y, ρ x = some y → VRel c y (ev x)) {ys : List AV} (h : opts ρ l = some ys) : Rels c ys (l.map ev) := by
  induction l generalizing ys with
  | nil => simp only [opts, Option.some.injEq] at h; subst h; exact .nil
  | cons x r ih =>
    unfold opts at h
    cases h1 : ρ x with
    | none => simp [h1] at h
    | some v =>
      cases h2 : opts ρ r with
      | none => simp [h1, h2] at h
      | some vs =>
        simp only [h1, h2, Option.some.injEq] at h
        subst h
        exact .cons (hρ x (by simp) v h1) (ih (fun y hy => hρ y (by simp [hy])) h2)
theorem ok_makeFunc (g : Good B c) {f : FuncId} {first caps : Array Operand} (ho : o.op = .makeFunc (.func f) first caps) (hf : first.toList = []) (hρ : ∀ x ∈ caps.toList, ∀ y, ρ x = some y → VRel c y (ev x)) {l : List AV} (h : opts ρ caps.toList = some l) : OpOk P B n c (execOp ev o) (.fn f l) [] := by
  have hf' : first = #[] := by apply Array.ext'; simpa using hf
  subst hf'
  have hr := opts_rel hρ h
  have e : (caps.toList.map ev).toArray = caps.map ev := by apply Array.ext'; simp
  have hv := VRel.fn (c := c) f hr
  rw [e] at hv
  exact .still g (by simp [execOp, ho, Instr.makeFunc]) hv
end
end Go.Proofs.Ytfhcciepaangiaa
