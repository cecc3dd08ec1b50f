/- Each operation does in a world what the plain evaluator says (first part). -/
import Derived.Test.YtfhcciepaangiaaPi4
import Derived.Laws.Entries
import Derived.Laws.World
set_option linter.unusedVariables false
set_option linter.unusedSimpArgs false
namespace Go.Proofs.Ytfhcciepaangiaa
open Go.RowKit

section
variable {P : Program}
theorem run_size {t : TypeId} {n : Nat} (h : tsize P t = some n) (w : World) : (sizeOf t).run P w = .ok n w := by
  unfold tsize at h
  cases hi : P.info? t with
  | none => simp [hi] at h
  | some i => simp [hi] at h; simp [sizeOf, typeInfo, hi, h]
theorem run_bytes {t : TypeId} {n : Nat} (h : tbytes P t = some n) (w : World) : ∃ i, (typeInfo t).run P w = .ok i w ∧ i.bytes = n := by
  unfold tbytes at h
  cases hi : P.info? t with
  | none => simp [hi] at h
  | some i => simp [hi] at h; exact ⟨i, by simp [typeInfo, hi], h⟩
theorem run_zero {t : TypeId} {z : Value} (h : tzero P t = some z) (w : World) : (zeroValue t).run P w = .ok z w := by
  unfold tzero at h
  cases hi : P.info? t with
  | none => simp [hi] at h
  | some i => simp [hi] at h; simp [zeroValue, typeInfo, hi, h]
theorem run_isAggD {t : TypeId} {d : TypeDesc} (h : P.underlying t = some d) (w : World) : (isAgg t).run P w = .ok (isAggD d) w := by
  simp only [isAgg, Sem.run_bind, run_underlying h, Result.andThen_ok]
  cases d <;> rfl
theorem pureRun_run {α : Type} : ∀ (s : Sem α) (a : α), pureRun P s = some a → ∀ w, s.run P w = .ok a w
  | .pure a, b, h, w => by simp only [pureRun, Option.some.injEq] at h; subst h; rfl
  | .program k, b, h, w => pureRun_run (k P) b h w
  | .load .., b, h, w => by simp [pureRun] at h
  | .store .., b, h, w => by simp [pureRun] at h
  | .new .., b, h, w => by simp [pureRun] at h
  | .shape .., b, h, w => by simp [pureRun] at h
  | .freeze .., b, h, w => by simp [pureRun] at h
  | .frozen .., b, h, w => by simp [pureRun] at h
  | .getObj .., b, h, w => by simp [pureRun] at h
  | .setObj .., b, h, w => by simp [pureRun] at h
  | .choose .., b, h, w => by simp [pureRun] at h
  | .sys .., b, h, w => by simp [pureRun] at h
  | .mark .., b, h, w => by simp [pureRun] at h
  | .halt .., b, h, w => by simp [pureRun] at h

/- plain values and real ones -/
theorem ofCell_rel {v : Value} {x : AV} (h : ofCell v = some x) (c : Cx) : VRel c x v := by
  unfold ofCell at h
  split at h
  · simp only [Option.some.injEq] at h; subst h; exact .nils
  · simp only [Option.some.injEq] at h; subst h; exact .nilp
  · cases hs : isSc v with
    | true => rw [hs] at h; simp only [cond_true, Option.some.injEq] at h; subst h; exact .sc v hs
    | false => rw [hs] at h; simp at h
theorem ofCells_rel : ∀ {vs : List Value} {xs : List AV}, ofCells vs = some xs → ∀ c : Cx, Rels c xs vs
  | [], xs, h, c => by simp only [ofCells, Option.some.injEq] at h; subst h; exact .nil
  | v :: vs, xs, h, c => by
    unfold ofCells at h
    cases h1 : ofCell v with
    | none => simp [h1] at h
    | some x =>
      cases h2 : ofCells vs with
      | none => simp [h1, h2] at h
      | some ys =>
        simp only [h1, h2, Option.some.injEq] at h
        subst h
        exact .cons (ofCell_rel h1 c) (ofCells_rel h2 c)
theorem ofVal_rel {v : Value} {x : AV} (h : ofVal v = some x) (c : Cx) : VRel c x v := by
  unfold ofVal at h
  split at h
  · rename_i cs
    obtain ⟨l, hl, rfl⟩ := Option.map_eq_some_iff.1 h
    have := VRel.agg (ofCells_rel hl c)
    simpa using this
  · rename_i cs
    obtain ⟨l, hl, rfl⟩ := Option.map_eq_some_iff.1 h
    have := VRel.tup (ofCells_rel hl c)
    simpa using this
  · exact ofCell_rel h c
theorem cellVal_eq {c : Cx} {x : AV} {v v' : Value} (h : cellVal x = some v) (r : VRel c x v') : v' = v := by
  cases r <;> simp [cellVal] at h <;> exact h
theorem cellVals_eq {c : Cx} : ∀ {xs : List AV} {vs vs' : List Value}, cellVals xs = some vs → Rels c xs vs' → vs' = vs
  | [], vs, vs', h, r => by cases r; simp only [cellVals, Option.some.injEq] at h; exact h
  | x :: xs, vs, vs', h, r => by
    cases r with
    | cons r1 r2 =>
      unfold cellVals at h
      cases h1 : cellVal x with
      | none => simp [h1] at h
      | some u =>
        cases h2 : cellVals xs with
        | none => simp [h1, h2] at h
        | some us =>
          simp only [h1, h2, Option.some.injEq] at h
          subst h
          rw [cellVal_eq h1 r1, cellVals_eq h2 r2]
theorem toVal_eq {c : Cx} {x : AV} {v v' : Value} (h : toVal x = some v) (r : VRel c x v') : v' = v := by
  cases r with
  | agg hr =>
    obtain ⟨l, hl, rfl⟩ := Option.map_eq_some_iff.1 (by simpa [toVal] using h)
    rw [cellVals_eq hl hr]
  | tup hr =>
    obtain ⟨l, hl, rfl⟩ := Option.map_eq_some_iff.1 (by simpa [toVal] using h)
    rw [cellVals_eq hl hr]
  | _ => simp [toVal, cellVal] at h <;> exact h
theorem acells_rel {c : Cx} {x : AV} {v : Value} {cs : List AV} (r : VRel c x v) (h : acells x = some cs) : Rels c cs v.cells.toList := by
  cases r with
  | und => simp [acells] at h
  | tup => simp [acells] at h
  | agg hr => simp only [acells, Option.some.injEq] at h; subst h; simpa [Value.cells] using hr
  | sc v hs =>
    simp only [acells, Option.some.injEq] at h; subst h
    have : v.cells = #[v] := by cases v <;> simp [isSc] at hs <;> rfl
    rw [this]; exact Rels.one (.sc v hs)
  | nilp => simp only [acells, Option.some.injEq] at h; subst h; exact Rels.one .nilp
  | nils => simp only [acells, Option.some.injEq] at h; subst h; exact Rels.one .nils
  | ptr ha off => simp only [acells, Option.some.injEq] at h; subst h; exact Rels.one (.ptr ha off)
  | ept a b d off => simp only [acells, Option.some.injEq] at h; subst h; exact Rels.one (.ept a b d off)
  | lst0 a cap ex he hm hn => simp only [acells, Option.some.injEq] at h; subst h; exact Rels.one (.lst0 a cap ex he hm hn)
  | lst a b d e f g => simp only [acells, Option.some.injEq] at h; subst h; exact Rels.one (.lst a b d e f g)
  | sl a b d e f g i => simp only [acells, Option.some.injEq] at h; subst h; exact Rels.one (.sl a b d e f g i)
  | fn f hr => simp only [acells, Option.some.injEq] at h; subst h; exact Rels.one (.fn f hr)
theorem isCell_one {c : Cx} {x : AV} {v : Value} (r : VRel c x v) (h : isCell x = true) : v.oneCell' = true := by
  cases r with
  | sc v hs => cases v <;> simp [isSc] at hs <;> rfl
  | _ => first | rfl | simp [isCell] at h
theorem cells_one {c : Cx} : ∀ {xs : List AV} {vs : List Value}, Rels c xs vs → xs.all isCell = true → ∀ v ∈ vs, v.oneCell' = true
  | [], _, r, _, v, hv => by cases r; simp at hv
  | x :: xs, _, r, h, v, hv => by
    cases r with
    | cons r1 r2 =>
      simp only [List.all_cons, Bool.and_eq_true] at h
      rcases List.mem_cons.1 hv with rfl | hv
      · exact isCell_one r1 h.1
      · exact cells_one r2 h.2 v hv

/- what an operation leaves -/
def upd (M : Nat → Option ABlk) : Wr → Nat → Option ABlk
  | [], id => M id
  | (i, r) :: rest, id => upd (fun k => if k = i then r else M k) rest id
def OpOk (P : Program) (B n : Nat) (c : Cx) (s : Sem Next) (v : AV) (d : Wr) : Prop :=
  ∃ (nx : Next) (v' : Value) (c' : Cx), s.run P c.w = .ok nx c'.w ∧ (nx = .value v' ∨ (nx = .skip ∧ v' = undef)) ∧ VRel c' v v' ∧ Step c c' ∧ Good B c' ∧ (∀ id, c'.al id ↔ c.al id ∨ id = n) ∧ ∀ id, c'.M id = upd c.M d id
variable {B n : Nat} {c : Cx}
theorem OpOk.still {s : Sem Next} {v : AV} {v' : Value} (g : Good B c) (hr : s.run P c.w = .ok (.value v') c.w) (hv : VRel c v v') : OpOk P B n c s v [] :=
  ⟨_, v', c.tick n, hr, .inl rfl, hv.step (tick_step c n), tick_step c n, tick_good g n, fun _ => Iff.rfl, fun _ => rfl⟩
theorem OpOk.made {s : Sem Next} {v : AV} {v' : Value} (g : Good B c) (hn : ¬ c.al n) {arr : Array Value} {T : TypeId} {cells : List AV} {vs rest : List Value} (h1 : arr.toList = vs ++ rest) (h2 : Rels c cells vs)
    (hr : s.run P c.w = .ok (.value v') (c.w.alloc (.cells arr T))) (hv : VRel (c.new n arr T cells) v v') : OpOk P B n c s v [(n, some ⟨cells, T⟩)] :=
  ⟨_, v', c.new n arr T cells, hr, .inl rfl, hv, new_step g hn arr T cells, new_good g hn h1 h2, fun _ => Iff.rfl, fun _ => rfl⟩

/- reading cells -/
theorem load_ok {w : World} {b o : Nat} {cs : List AV} {vs : List Value} (hr : Rels c cs vs) (hc : CellsAt w b o vs) {t : TypeId} {off : Nat} {x : AV} (h : apart P t cs off = some x) :
    ∃ v', (loadVar t ⟨b, o + off, none⟩).run P w = .ok v' w ∧ VRel c x v' := by
  unfold apart at h
  cases hu : P.underlying t with
  | none => simp [hu] at h
  | some d =>
    simp only [hu] at h
    cases hg : isAggD d with
    | true =>
      rw [hg] at h
      simp only [cond_true] at h
      cases hz : tsize P t with
      | none => simp [hz] at h
      | some k =>
        simp only [hz] at h
        cases hb : Nat.ble (off + k) cs.length with
        | false => simp [hb] at h
        | true =>
          simp only [hb, cond_true, Option.some.injEq] at h
          subst h
          have hle : off + k ≤ vs.length := by rw [← hr.length]; exact Nat.le_of_ble_eq_true hb
          have hlen : ((vs.drop off).take k).length = k := by simp; omega
          refine ⟨.agg ((vs.drop off).take k).toArray, ?_, .agg ((hr.drop off).take k)⟩
          have hl := run_loadCells_list (P := P) w ⟨b, o + off, none⟩ ((vs.drop off).take k) (fun j v hv => by
            rw [addr_add]
            rw [List.getElem?_take] at hv
            split at hv
            · rw [List.getElem?_drop] at hv
              have := hc (off + j) v hv
              rwa [← Nat.add_assoc] at this
            · cases hv)
          rw [hlen] at hl
          simp only [loadVar, Sem.run_bind, run_isAggD hu, Result.andThen_ok, hg, if_true, run_size hz, hl, Sem.run_pure]
    | false =>
      rw [hg] at h
      simp only [cond_false] at h
      obtain ⟨v', hv, hx⟩ := hr.get h
      refine ⟨v', ?_, hx⟩
      have := hc off v' hv
      simp only [loadVar, Sem.run_bind, run_isAggD hu, Result.andThen_ok, hg, load, Sem.run]
      simp [Sem.run, this]
theorem Good.cells (g : Good B c) {id : Nat} {b : ABlk} (h : c.M id = some b) : ∃ (arr : Array Value) (vs rest : List Value), c.w.heap[c.f id]? = some (.cells arr b.ty) ∧ arr.toList = vs ++ rest ∧ Rels c b.cells vs ∧ CellsAt c.w (c.f id) 0 vs := by
  obtain ⟨arr, vs, rest, h1, h2, h3⟩ := g.blk id b h
  refine ⟨arr, vs, rest, h1, h2, h3, fun k v hv => ?_⟩
  have hk : k < vs.length := by
    rcases Nat.lt_or_ge k vs.length with h' | h'
    · exact h'
    · rw [List.getElem?_eq_none h'] at hv; cases hv
  have : arr[k]? = some v := by rw [← Array.getElem?_toList, h2, List.getElem?_append_left hk]; exact hv
  simp [World.cell?, h1, this]

variable {ev : Operand → Value} {ρ : Operand → Option AV} {look : Nat → Option ABlk} {o : Oper}
theorem ok_load (g : Good B c) (hl : ∀ id b, look id = some b → c.M id = some b) {t : TypeId} {a : Operand} (ho : o.op = .load t a) {x v : AV} {d : Wr} (hx : VRel c x (ev a)) (h : aLoad P look t x = some (v, d)) : OpOk P B n c (execOp ev o) v d := by
  unfold aLoad at h
  split at h
  · rename_i id off
    cases hb : look id with
    | none => simp [hb] at h
    | some b =>
      simp only [hb] at h
      obtain ⟨y, hy, he⟩ := Option.map_eq_some_iff.1 h
      simp only [Prod.mk.injEq] at he
      obtain ⟨rfl, rfl⟩ := he
      obtain ⟨arr, vs, rest, -, -, h3, h4⟩ := g.cells (hl id b hb)
      obtain ⟨v', hr, hv⟩ := load_ok (w := c.w) h3 h4 hy
      rw [Nat.zero_add] at hr
      have ea : ev a = .pointer (some ⟨c.f id, off, none⟩) := by generalize ev a = u at hx; cases hx; rfl
      exact .still g (by simp only [execOp, ho, Instr.loadAt, ea, Instr.sureAddr, Sem.run_bind, Sem.run_pure, Result.andThen_ok, hr]) hv
  · rename_i cs off
    obtain ⟨y, hy, he⟩ := Option.map_eq_some_iff.1 h
    simp only [Prod.mk.injEq] at he
    obtain ⟨rfl, rfl⟩ := he
    generalize hu : ev a = u at hx
    cases hx with
    | ept hb hr hc off =>
      obtain ⟨v', hr', hv⟩ := load_ok (w := c.w) hr hc hy
      exact .still g (by simp only [execOp, ho, Instr.loadAt, hu, Instr.sureAddr, Sem.run_bind, Sem.run_pure, Result.andThen_ok, hr']) hv
  · cases h
end

end Go.Proofs.Ytfhcciepaangiaa
