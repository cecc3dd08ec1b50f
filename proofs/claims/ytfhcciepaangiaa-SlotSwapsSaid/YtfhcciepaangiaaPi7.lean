/- Each operation does in a world what the plain evaluator says (third part: values that are built, slices). -/
import Derived.Test.YtfhcciepaangiaaPi6
import Derived.Deep.Upon
import Derived.Laws.IdiomStrings
import Derived.Room.Entries
set_option linter.unusedVariables false
set_option linter.unusedSimpArgs false
namespace Go.Proofs.Ytfhcciepaangiaa
open Go.RowKit

section
variable {P : Program} {B n : Nat} {c : Cx} {ev : Operand → Value} {ρ : Operand → Option AV} {look : Nat → Option ABlk} {o : Oper}

theorem fold_set (off : Nat) : ∀ (l : List Value) (k : Nat) (cs : Array Value), off + k + l.length ≤ cs.size →
    (l.zipIdx k).foldl (fun cs p => cs.setIfInBounds (off + p.2) p.1) cs = (cs.toList.take (off + k) ++ l ++ cs.toList.drop (off + k + l.length)).toArray
  | [], k, cs, h => by simp
  | v :: r, k, cs, h => by
    simp only [List.length_cons] at h
    rw [List.zipIdx_cons, List.foldl_cons]
    have ih := fold_set off r (k + 1) (cs.setIfInBounds (off + k) v) (by simp; omega)
    simp only [Nat.zero_add] at ih ⊢
    rw [ih]
    have e := list_seg_step cs.toList (off + k) v r (by simp; omega)
    simp only [List.length_cons]
    rw [← e]
    simp [Array.toList_setIfInBounds, Nat.add_assoc]
theorem fold_cells (off : Nat) (v cs : Array Value) (h : off + v.size ≤ cs.size) :
    v.zipIdx.foldl (fun cs (c, j) => cs.setIfInBounds (off + j) c) cs = (cs.toList.take off ++ v.toList ++ cs.toList.drop (off + v.size)).toArray := by
  rw [← Array.foldl_toList]
  have := fold_set off v.toList 0 cs (by simpa using h)
  simpa using this
inductive PRel (c : Cx) : List (Nat × AV) → List (Nat × Value) → Prop
  | nil : PRel c [] []
  | cons {i : Nat} {x : AV} {v : Value} {xs : List (Nat × AV)} {vs : List (Nat × Value)} (h : VRel c x v) (t : PRel c xs vs) : PRel c ((i, x) :: xs) ((i, v) :: vs)
theorem fill_rel {place : Nat → Option (Nat × Nat)} {l : List (Nat × AV)} {l' : List (Nat × Value)} (hl : PRel c l l') : ∀ {zs cs : List AV} {vs : List Value}, Rels c zs vs → afill place zs l = some cs → ∃ us, Instr.fill place vs.toArray l' = some us.toArray ∧ Rels c cs us := by
  induction hl with
  | nil => intro zs cs vs hr h; simp only [afill, Option.some.injEq] at h; subst h; exact ⟨vs, rfl, hr⟩
  | cons hx ht ih =>
    rename_i i x v xs vs'
    intro zs cs vs hr h
    unfold afill at h
    split at h
    · rename_i off size cs' hp hc
      cases hq : (Nat.beq cs'.length size && Nat.ble (off + size) zs.length) with
      | false => simp [hq] at h
      | true =>
        simp only [hq, cond_true] at h
        simp only [Bool.and_eq_true] at hq
        have hcr := acells_rel hx hc
        have h1 : v.cells.size = size := by have := hcr.length; simp at this; rw [← this]; exact Nat.eq_of_beq_eq_true hq.1
        have h2 : off + size ≤ vs.length := by rw [← hr.length]; exact Nat.le_of_ble_eq_true hq.2
        obtain ⟨us, hu, hur⟩ := ih (aput_rel hr hcr off) h
        refine ⟨us, ?_, hur⟩
        unfold Instr.fill
        have hf := fold_cells off v.cells vs.toArray (by simpa [h1] using h2)
        have hcond : (decide (v.cells.size ≠ size) || decide (off + v.cells.size > vs.toArray.size)) = false := by simp [h1]; omega
        simp only [hp, hcond]
        simp only [Bool.false_eq_true, if_false]
        rw [hf]
        simpa using hu
    · cases h
theorem parts_rel : ∀ {l : List (Nat × Operand)}, (∀ p ∈ l, ∀ y, ρ p.2 = some y → VRel c y (ev p.2)) → ∀ {ys : List (Nat × AV)}, optParts ρ l = some ys → PRel c ys (l.map fun p => (p.1, ev p.2))
  | [], _, ys, h => by simp only [optParts, Option.some.injEq] at h; subst h; exact .nil
  | (i, x) :: r, hρ, ys, h => by
    unfold optParts at h
    cases h1 : ρ x with
    | none => simp [h1] at h
    | some v =>
      cases h2 : optParts ρ r with
      | none => simp [h1, h2] at h
      | some vs =>
        simp only [h1, h2, Option.some.injEq] at h
        subst h
        exact .cons (hρ (i, x) (by simp) v h1) (parts_rel (fun p hp => hρ p (by simp [hp])) h2)
theorem run_places : ∀ {fs : List Field} {pl : List (Nat × Nat)}, placesOf P fs = some pl → ∀ w, (fs.mapM fun f => do pure (f.offset, ← sizeOf f.type) : Sem (List (Nat × Nat))).run P w = .ok pl w
  | [], pl, h, w => by simp only [placesOf, Option.some.injEq] at h; subst h; simp
  | f :: r, pl, h, w => by
    unfold placesOf at h
    cases h1 : tsize P f.type with
    | none => simp [h1] at h
    | some k =>
      cases h2 : placesOf P r with
      | none => simp [h1, h2] at h
      | some l =>
        simp only [h1, h2, Option.some.injEq] at h
        subst h
        have := run_places h2 w
        simp only [List.mapM_cons, Sem.run_bind, run_size h1, this, Result.andThen_ok, Sem.run_pure]
theorem agg_zero {t : TypeId} {zs : List AV} (h : (tzero P t).bind ofVal = some (.agg zs)) (c : Cx) : ∃ z vs, tzero P t = some z ∧ z.cells = vs.toArray ∧ Rels c zs vs := by
  obtain ⟨z, hz, hv⟩ := Option.bind_eq_some_iff.1 h
  have := ofVal_rel hv c
  cases this with
  | agg hr => rename_i vs; exact ⟨_, vs, hz, rfl, hr⟩
theorem ok_build (g : Good B c) {t : TypeId} {parts : Array (Nat × Operand)} (ho : o.op = .build t parts) (hρ : ∀ p ∈ parts.toList, ∀ y, ρ p.2 = some y → VRel c y (ev p.2)) {ys : List (Nat × AV)} (hp : optParts ρ parts.toList = some ys) {v : AV} {d : Wr} (h : aBuild P t ys = some (v, d)) : OpOk P B n c (execOp ev o) v d := by
  have hpr := parts_rel hρ hp
  have epl : (parts.map fun (i, x) => (i, ev x)).toList = parts.toList.map fun p => (p.1, ev p.2) := by simp
  unfold aBuild at h
  split at h
  · rename_i zs hz
    obtain ⟨z, vs, h1, h2, h3⟩ := agg_zero hz c
    split at h
    · rename_i fs hu
      split at h
      · rename_i pl hpl
        obtain ⟨cs, hcs, he⟩ := Option.map_eq_some_iff.1 h
        simp only [Prod.mk.injEq] at he
        obtain ⟨rfl, rfl⟩ := he
        obtain ⟨us, hf, hr⟩ := fill_rel hpr h3 hcs
        refine .still g (v' := .agg us.toArray) ?_ (.agg hr)
        have hm : (fs.mapM fun f => do pure (f.offset, ← sizeOf f.type) : Sem (Array (Nat × Nat))).run P c.w = .ok pl.toArray c.w := by
          rw [Array.mapM_eq_mapM_toList, map_eq_pure_bind]
          have := run_places hpl c.w
          simp only [Sem.run_bind, this, Result.andThen_ok, Sem.run_pure]
        simp only [execOp, ho, Instr.build, Sem.run_bind, run_zero h1, Result.andThen_ok, run_underlying hu, hm, h2, epl]
        have : (fun i : Nat => pl.toArray[i]?) = fun i : Nat => pl[i]? := by funext i; simp
        simp only [this, hf, Sem.run_pure, Result.andThen_ok]
      · cases h
    · rename_i len e hu
      split at h
      · rename_i sz hs
        obtain ⟨cs, hcs, he⟩ := Option.map_eq_some_iff.1 h
        simp only [Prod.mk.injEq] at he
        obtain ⟨rfl, rfl⟩ := he
        obtain ⟨us, hf, hr⟩ := fill_rel hpr h3 hcs
        refine .still g (v' := .agg us.toArray) ?_ (.agg hr)
        simp only [execOp, ho, Instr.build, Sem.run_bind, run_zero h1, Result.andThen_ok, run_underlying hu, run_size hs, h2, epl, hf, Sem.run_pure]
      · cases h
    · cases h
  · cases h

theorem range_none (f : Nat → Value) : (Array.range 0).map f = ([] : List Value).toArray := by apply Array.ext'; simp
theorem rep_rel {zs : List AV} {vs : List Value} (h : Rels c zs vs) : ∀ k, Rels c (rep zs k) (rep vs k)
  | 0 => .nil
  | k + 1 => h.append (rep_rel h k)
theorem rep_length {α : Type} (zs : List α) : ∀ k, (rep zs k).length = k * zs.length
  | 0 => by simp [rep]
  | k + 1 => by simp [rep, rep_length zs k, Nat.succ_mul]; omega
theorem rep_get {α : Type} (zs : List α) (hz : 0 < zs.length) : ∀ (k i : Nat), i < k * zs.length → (rep zs k)[i]? = zs[i % zs.length]?
  | 0, i, h => by simp at h
  | k + 1, i, h => by
    rw [Nat.succ_mul] at h
    unfold rep
    by_cases hi : i < zs.length
    · rw [List.getElem?_append_left hi, Nat.mod_eq_of_lt hi]
    · rw [List.getElem?_append_right (by omega), rep_get zs hz k (i - zs.length) (by omega), Nat.mod_eq_sub_mod (by omega : zs.length ≤ i)]
theorem cells_rep (z : Array Value) (hz : 0 < z.size) (k : Nat) : (Array.range (k * z.size)).map (z[· % z.size]!) = (rep z.toList k).toArray := by
  apply Array.ext'
  apply List.ext_getElem?
  intro i
  have hl := rep_length z.toList k
  simp only [Array.toList_map, Array.toList_range, List.getElem?_map]
  by_cases hi : i < k * z.size
  · have h2 := rep_get z.toList (by simpa using hz) k i (by simpa using hi)
    simp only [Array.length_toList] at h2
    rw [h2, List.getElem?_range hi]
    have hm : i % z.size < z.size := Nat.mod_lt _ hz
    simp [hm]
  · rw [List.getElem?_eq_none (by simpa using hi), List.getElem?_eq_none (by simp [hl]; omega)]; rfl
theorem zeroCells_rep (z : Array Value) (hz : 0 < z.size) (k : Nat) : (Builtin.zeroCells z k).toList = rep z.toList k := by
  unfold Builtin.zeroCells; rw [cells_rep z hz k]
theorem zero_cells {e : TypeId} {zs : List AV} (h : (tzero P e).bind (fun z => (ofVal z).bind acells) = some zs) (c : Cx) : ∃ z, tzero P e = some z ∧ Rels c zs z.cells.toList := by
  obtain ⟨z, hz, h⟩ := Option.bind_eq_some_iff.1 h
  obtain ⟨x, hx, h⟩ := Option.bind_eq_some_iff.1 h
  exact ⟨z, hz, acells_rel (ofVal_rel hx c) h⟩
theorem new_sl {arr : Array Value} {T : TypeId} {cells : List AV} {esz k cap cap' : Nat} {ex : Bool} (hs : cap' * esz ≤ arr.size) (hk : k ≤ cap) (hc : cap ≤ cap') (he : ex = true → cap' = cap) (hm : cap' ≤ maxLen) :
    VRel (c.new n arr T cells) (.sl n 0 esz k cap ex) (.slice (some ⟨c.w.heap.size, 0, none⟩) k cap') := by
  have h : (c.new n arr T cells).f n = c.w.heap.size := by simp [Cx.new]
  have := VRel.sl (c := c.new n arr T cells) (id := n) (off := 0) (esz := esz) (n := k) (cap := cap) (cap' := cap') (ex := ex) (arr := arr) (T := T) (.inr rfl) (by rw [h]; exact alloc_last _ _) (by simpa using hs) hk hc he hm
  rwa [h] at this
theorem ok_buildSlice (g : Good B c) (hn : ¬ c.al n) {t : TypeId} {len : Nat} {parts : Array (Nat × Operand)} (ho : o.op = .buildSlice t len parts) (hρ : ∀ p ∈ parts.toList, ∀ y, ρ p.2 = some y → VRel c y (ev p.2)) {ys : List (Nat × AV)} (hp : optParts ρ parts.toList = some ys) {v : AV} {d : Wr} (h : aBuildSlice P n t len ys = some (v, d)) : OpOk P B n c (execOp ev o) v d := by
  have hpr := parts_rel hρ hp
  have epl : (parts.map fun (i, x) => (i, ev x)).toList = parts.toList.map fun p => (p.1, ev p.2) := by simp
  unfold aBuildSlice at h
  split at h
  · rename_i e hu
    split at h
    · rename_i sz zs hs hz
      cases hq : (Nat.ble (len * sz) 16777216 && Nat.beq zs.length sz && Nat.ble 1 sz) with
      | false => simp [hq] at h
      | true =>
        simp only [hq, cond_true] at h
        simp only [Bool.and_eq_true] at hq
        obtain ⟨⟨q1, q2⟩, q3⟩ := hq
        have q1 := Nat.le_of_ble_eq_true q1
        have q2 := Nat.eq_of_beq_eq_true q2
        have q3 := Nat.le_of_ble_eq_true q3
        split at h
        · rename_i cs hcs
          simp only [Option.some.injEq, Prod.mk.injEq] at h
          obtain ⟨rfl, rfl⟩ := h
          obtain ⟨z, hz1, hz2⟩ := zero_cells hz c
          have hzl : z.cells.size = sz := by have := hz2.length; simp at this; omega
          obtain ⟨us, hf, hr⟩ := fill_rel hpr (rep_rel hz2 len) hcs
          have hul : us.length = len * sz := by
            have hal : ∀ {l : List (Nat × AV)} {a b : List AV}, afill (fun i => some (i * sz, sz)) a l = some b → b.length = a.length := by
              intro l
              induction l with
              | nil => intro a b h; simp only [afill, Option.some.injEq] at h; rw [h]
              | cons p r ih =>
                obtain ⟨i, x⟩ := p
                intro a b h
                unfold afill at h
                split at h
                · rename_i off size cs' hp hc
                  cases hq : (Nat.beq cs'.length size && Nat.ble (off + size) a.length) with
                  | false => simp [hq] at h
                  | true =>
                    simp only [hq, cond_true] at h
                    simp only [Bool.and_eq_true] at hq
                    have e1 := Nat.eq_of_beq_eq_true hq.1
                    have e2 := Nat.le_of_ble_eq_true hq.2
                    rw [ih h]; simp [aput]; omega
                · cases h
            rw [← hr.length, hal hcs, rep_length, q2]
          refine .made g hn (arr := us.toArray) (rest := []) (by simp) hr ?_ (new_sl (by simp [hul]) (Nat.le_refl _) (Nat.le_refl _) (fun _ => rfl) (by unfold maxLen; have : len ≤ len * sz := Nat.le_mul_of_pos_right _ q3; omega))
          have hnot : ¬ (len * sz > 2 ^ 24) := by omega
          simp only [execOp, ho, Instr.buildSlice, Sem.run_bind, run_underlying hu, Result.andThen_ok, run_size hs, hnot, if_false, Sem.run_pure]
          by_cases h0 : len * sz = 0
          · have hl0 : len = 0 := by
              rcases Nat.mul_eq_zero.1 h0 with h | h
              · exact h
              · omega
            subst hl0
            simp only [rep] at hf
            simp only [Nat.zero_mul, if_true, Sem.run_bind, Sem.run_pure, Result.andThen_ok]
            have e0 : (Array.range 0).map ((#[] : Array Value)[· % (#[] : Array Value).size]!) = ([] : List Value).toArray := range_none _
            rw [range_none, epl, hf]
            simp [newRow, newObj]; rfl
          · have hc := cells_rep z.cells (by omega) len
            rw [hzl] at hc
            simp only [h0, if_false, Sem.run_bind, run_zero hz1, Result.andThen_ok, Sem.run_pure, hzl, hc, epl, hf]
            simp [newRow, newObj]; rfl
        · cases h
    · cases h
  · cases h
theorem ok_makeSlice (g : Good B c) (hn : ¬ c.al n) {t : TypeId} {l k : Operand} (ho : o.op = .makeSlice t l k) {x y v : AV} {d : Wr} (hx : VRel c x (ev l)) (hy : VRel c y (ev k)) (h : aMakeSlice P n t x y = some (v, d)) : OpOk P B n c (execOp ev o) v d := by
  unfold aMakeSlice at h
  split at h
  · rename_i x y
    have el : ev l = .int .i64 x := by generalize ev l = u at hx; cases hx; rfl
    have ek : ev k = .int .i64 y := by generalize ev k = u at hy; cases hy; rfl
    split at h
    · rename_i e hu
      split at h
      · rename_i sz by_ zs hs hb hz
        cases hq : (decide (0 ≤ x) && decide (x ≤ y) && decide (y * (by_ : Int) ≤ 140737488355328) && decide (y ≤ 4611686018427387904) && Nat.beq zs.length sz && Nat.ble 1 sz) with
        | false => simp [hq] at h
        | true =>
          simp only [hq, cond_true, Option.some.injEq, Prod.mk.injEq] at h
          obtain ⟨rfl, rfl⟩ := h
          simp only [Bool.and_eq_true, decide_eq_true_eq] at hq
          obtain ⟨⟨⟨⟨⟨q1, q2⟩, q3⟩, q4⟩, q5⟩, q6⟩ := hq
          have q5 := Nat.eq_of_beq_eq_true q5
          have q6 := Nat.le_of_ble_eq_true q6
          obtain ⟨z, hz1, hz2⟩ := zero_cells hz c
          have hzl : z.cells.size = sz := by have := hz2.length; simp at this; omega
          obtain ⟨i, hi, hib⟩ := run_bytes hb c.w
          have hc := cells_rep z.cells (by omega) y.toNat
          rw [hzl] at hc
          have ww : ∀ a : Int, 0 ≤ a → a ≤ 4611686018427387904 → IntKind.i64.wrap a = a := fun a h1 h2 => IntWalk.i64_in a (by omega)
          refine .made g hn (arr := (rep z.cells.toList y.toNat).toArray) (vs := rep z.cells.toList y.toNat) (rest := []) (by simp) (rep_rel hz2 _) ?_ (new_sl (by simp [rep_length, hzl]) (by omega) (Nat.le_refl _) (fun _ => rfl) (by unfold maxLen; omega))
          have t1 : (decide (y < 0) || decide ((by_ : Int) * y > 2 ^ 48)) = false := by
            rw [Int.mul_comm]; simp; omega
          have t2 : ¬ (y * (by_ : Int) < 0) := by have := Int.mul_nonneg (by omega : 0 ≤ y) (by omega : 0 ≤ (by_ : Int)); omega
          simp only [execOp, ho, Instr.makeSlice, Sem.run_bind, run_underlying hu, Result.andThen_ok, el, ek, asInt, asIntOf, Sem.run_pure, hi, hib, ww x q1 (by omega), ww y (by omega) q4, t1]
          have c1 : (false || decide (x < 0) || decide (x > y)) = false := by simp; omega
          simp only [c1, Bool.false_eq_true, if_false, Sem.run_bind, Sem.run_pure, Result.andThen_ok, run_askRoom, run_size hs]
          by_cases h0 : y.toNat * sz = 0
          · have hl0 : y.toNat = 0 := by
              rcases Nat.mul_eq_zero.1 h0 with h | h
              · exact h
              · omega
            simp only [hl0, Nat.zero_mul, if_true, Sem.run_pure, Result.andThen_ok, rep, range_none]
            simp [newRow, newObj]; rfl
          · simp only [h0, if_false, Sem.run_bind, run_zero hz1, Result.andThen_ok, Sem.run_pure, hzl, hc]
            simp [newRow, newObj]; rfl
      · cases h
    · cases h
  · cases h
end
end Go.Proofs.Ytfhcciepaangiaa
