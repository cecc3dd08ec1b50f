/- Each operation does in a world what the plain evaluator says (sixth part: append, copy, clear, conversions; all operations together). -/
import Derived.Test.YtfhcciepaangiaaPi9
import Derived.Laws.BytesArg
set_option linter.unusedVariables false
set_option linter.unusedSimpArgs false
namespace Go.Proofs.Ytfhcciepaangiaa
open Go.RowKit

section
variable {P : Program} {B n : Nat} {c : Cx} {ev : Operand → Value} {ρ : Operand → Option AV} {look : Nat → Option ABlk} {o : Oper}

theorem info_of {e : TypeId} {sz : Nat} (h : tsize P e = some sz) : ∃ i, P.info? e = some i ∧ i.size = sz ∧ (∀ b, tbytes P e = some b → i.bytes = b) ∧ (∀ z, tzero P e = some z → i.zero = some z) := by
  unfold tsize at h
  cases hi : P.info? e with
  | none => simp [hi] at h
  | some i => simp [hi] at h; exact ⟨i, rfl, h, fun b hb => by simpa [tbytes, hi] using hb, fun z hz => by simpa [tzero, hi] using hz⟩

/- a slice's cells -/
structure Sees (c : Cx) (sz m : Nat) (xs : List AV) (u : Value) (a : Option Addr) (cap : Nat) (news : List Value) : Prop where
  u : u = .slice a m cap
  r : Rels c xs news
  len : news.length = m * sz
  le : m ≤ cap
  no : a = none → m = 0 ∧ cap = 0
  mx : cap ≤ maxLen
  at_ : ∀ b, a = some b → ∀ (j : Nat) (v : Value), news[j]? = some v → c.w.cell? (b.add j) = some v
theorem cellsOf_real (g : Good B c) (hl : ∀ id b, look id = some b → c.M id = some b) {sz m : Nat} {xs : List AV} {y : AV} {u : Value} (h : cellsOf look sz y = some (m, xs)) (r : VRel c y u) : ∃ a cap news, Sees c sz m xs u a cap news := by
  unfold cellsOf at h
  split at h
  · simp only [Option.some.injEq, Prod.mk.injEq] at h
    obtain ⟨rfl, rfl⟩ := h
    cases r
    exact ⟨none, 0, [], rfl, .nil, by simp, Nat.le_refl _, fun _ => ⟨rfl, rfl⟩, by unfold maxLen; omega, fun b hb => by cases hb⟩
  · rename_i k cs ex
    cases hq : Nat.beq cs.length (k * sz) with
    | false => simp only [hq, cond_false, reduceCtorEq] at h
    | true =>
      simp only [hq, cond_true, Option.some.injEq, Prod.mk.injEq] at h
      obtain ⟨rfl, rfl⟩ := h
      have hq := Nat.eq_of_beq_eq_true hq
      cases r with
      | lst0 a cap ex he hm hn => exact ⟨a, cap, [], rfl, .nil, by simp, Nat.zero_le _, fun h => ⟨rfl, hn h⟩, hm, fun b hb j v hj => by simp at hj⟩
      | lst hb hr hc hn he hm =>
        rename_i b o' vs cap
        refine ⟨_, cap, vs, rfl, hr, by rw [← hr.length]; exact hq, hn, (fun h => by cases h), hm, fun a ha j v hj => ?_⟩
        simp only [Option.some.injEq] at ha
        subst ha
        rw [addr_add]
        exact hc j v hj
  · rename_i id off esz k cap ex
    cases hb : look id with
    | none => simp [hb] at h
    | some b =>
      simp only [hb] at h
      cases hq : (Nat.ble (off + k * sz) b.cells.length && Nat.beq esz sz) with
      | false => simp only [hq, cond_false, reduceCtorEq] at h
      | true =>
        simp only [hq, cond_true, Option.some.injEq, Prod.mk.injEq] at h
        obtain ⟨rfl, rfl⟩ := h
        simp only [Bool.and_eq_true] at hq
        have q1 := Nat.le_of_ble_eq_true hq.1
        obtain ⟨arr, vs, rest, k1, k2, k3, k4⟩ := g.cells (hl id b hb)
        have hvl := k3.length
        cases r with
        | sl ha hb' hs' hn hc he hm =>
          rename_i cap' arr' T
          refine ⟨_, cap', (vs.drop off).take (k * sz), rfl, (k3.drop _).take _, by simp; omega, by omega, (fun h => by cases h), hm, fun a ha j v hj => ?_⟩
          simp only [Option.some.injEq] at ha
          subst ha
          rw [addr_add]
          rw [List.getElem?_take] at hj
          split at hj
          · rw [List.getElem?_drop] at hj
            have := k4 _ v hj
            rwa [Nat.zero_add] at this
          · cases hj
  · cases h
theorem first_run {sz m : Nat} {xs : List AV} {u : Value} {a : Option Addr} {cap : Nat} {news : List Value} (s : Sees c sz m xs u a cap news) {q : Nat} (hq : q ≤ m) (w : World) (hw : ∀ p, w.cell? p = c.w.cell? p) : (Builtin.firstCells sz q u).run P w = .ok (news.take (q * sz)).toArray w := by
  rw [s.u]
  cases ha : a with
  | none =>
    have := (s.no ha).1
    have hl := s.len
    rw [this, Nat.zero_mul] at hl
    have hn : news = [] := List.length_eq_zero_iff.1 hl
    simp [Builtin.firstCells, hn]
  | some b =>
    have hle : q * sz ≤ news.length := by rw [s.len]; exact Nat.mul_le_mul_right _ hq
    have := run_loadCells_list (P := P) w b (news.take (q * sz)) (fun j v hj => by
      rw [hw]
      rw [List.getElem?_take] at hj
      split at hj
      · exact s.at_ b ha j v hj
      · cases hj)
    have hl : (news.take (q * sz)).length = q * sz := by simp; omega
    rw [hl] at this
    simpa [Builtin.firstCells] using this
theorem first_all {sz m : Nat} {xs : List AV} {u : Value} {a : Option Addr} {cap : Nat} {news : List Value} (s : Sees c sz m xs u a cap news) (w : World) (hw : ∀ p, w.cell? p = c.w.cell? p) : (Builtin.firstCells sz m u).run P w = .ok news.toArray w := by
  have := first_run (P := P) s (Nat.le_refl m) w hw
  rwa [← s.len, List.take_length] at this
theorem src_of {sz m : Nat} {tx e' : TypeId} {xs : List AV} {u : Value} {a : Option Addr} {cap : Nat} {news : List Value} (hk : P.underlying tx = some (.slice e')) (s : Sees c sz m xs u a cap news) (h1 : xs.all isCell = true) : Src P sz tx u m news c.w :=
  ⟨.inl ⟨e', hk⟩, fun _ => by rw [s.u]; rfl, first_all s _ (fun _ => rfl), first_all s _ (fun p => by simp), s.len, cells_one s.r h1⟩

theorem grow_ok (g : Good B c) (hn : ¬ c.al n) {t tx ty e : TypeId} {i : TypeInfo} {z : Value} (ht : P.underlying t = some (.slice e)) (hi : P.info? e = some i) (hz : i.zero = some z) (hzs : z.cells.size = i.size) (h1 : 1 ≤ i.size)
    {k : Nat} {old : List AV} {us : Value} {base : Option Addr} {cap : Nat} {olds : List Value} (so : Sees c i.size k old us base cap olds) {m : Nat} {xs : List AV} {news : List Value} {xv : Value} (hsrc : Src P i.size tx xv m news c.w) (hxr : Rels c xs news)
    (hg : cap < k + m) (hb : (k + m) * i.bytes ≤ 140737488355328) (hm : k + m ≤ 4611686018427387904) {s : Sem Next} (hrun : ∀ w : World, s.run P w = ((Builtin.append_ #[t, tx] ty #[us, xv]).run P w).andThen fun v w' => .ok (.value v) w') :
    OpOk P B n c s (.sl n 0 i.size (k + m) (k + m) false) [(n, some ⟨old ++ xs, e⟩)] := by
  have hr := run_append_grow_src (P := P) c.w t tx ty e i z ht hi hz base k cap olds (by rw [← so.u]; exact first_all so _ (fun p => by simp)) xv m news hsrc hg (by omega) (growslice_fits hg hb)
  have gd := drew_good g
  have hcap := grownCap_ge c.w (k + m) cap e
  have hcm := grownCap_le_maxLen c.w (k + m) cap e (by unfold maxLen; omega)
  have hzl : (Builtin.zeroCells z.cells (grownCap c.w (k + m) cap e - (k + m))).size = (grownCap c.w (k + m) cap e - (k + m)) * i.size := by simp [Builtin.zeroCells, hzs]
  have hrel : Rels c.drew (old ++ xs) (olds ++ news) := (so.r.append hxr).step (drew_step c)
  refine ⟨_, _, c.drew.new n ((olds ++ news).toArray ++ Builtin.zeroCells z.cells (grownCap c.w (k + m) cap e - (k + m))) e (old ++ xs), ?_, .inl rfl, new_sl (c := c.drew) (cap' := grownCap c.w (k + m) cap e) ?_ (Nat.le_refl _) hcap (fun h => by cases h) hcm, (drew_step c).trans (new_step gd hn _ e _), new_good gd hn (vs := olds ++ news) (rest := (Builtin.zeroCells z.cells (grownCap c.w (k + m) cap e - (k + m))).toList) (by simp) hrel, fun _ => Iff.rfl, fun _ => rfl⟩
  · rw [hrun, so.u, hr]; rfl
  · have h2 := hsrc.newsLen
    have h3 := so.len
    simp only [Array.size_append, List.size_toArray, List.length_append, hzl, h2, h3]
    have : k * i.size + m * i.size + (grownCap c.w (k + m) cap e - (k + m)) * i.size = grownCap c.w (k + m) cap e * i.size := by
      rw [← Nat.add_mul, ← Nat.add_mul]; congr 1; omega
    omega
theorem run_append_room_row {t tx ty e : TypeId} {i : TypeInfo} (ht : P.underlying t = some (.slice e)) (hi : P.info? e = some i) {w : World} {b off sLen sCap : Nat} {x : Value} {m : Nat} {news : List Value} (hs : Src P i.size tx x m news w)
    (hroom : sLen + m ≤ sCap) {arr : Array Value} {T : TypeId} (hb : w.heap[b]? = some (.cells arr T)) (hfit : off + (sLen + m) * i.size ≤ arr.size) :
    (Builtin.append_ #[t, tx] ty #[.slice (some ⟨b, off, none⟩) sLen sCap, x]).run P w = .ok (.slice (some ⟨b, off, none⟩) (sLen + m) sCap) (w.setRow b (arr.toList.take (off + sLen * i.size) ++ news ++ arr.toList.drop (off + sLen * i.size + news.length)).toArray) := by
  have hfit' : off + sLen * i.size + news.length ≤ arr.size := by rw [hs.newsLen]; rw [Nat.add_mul] at hfit; omega
  have hst := run_storeCells_at P b (off + sLen * i.size) T news 0 arr w hb (by simpa using hfit') hs.one
  simp only [Nat.add_zero] at hst
  rcases hs.kind with ⟨e', hk⟩ | hk <;> simp [Builtin.append_, run_underlying ht, run_underlying hk, sizeOf, typeInfo, hi, hs.len, hroom, hs.cells, Addr.add_lit, hst]
theorem ok_append (g : Good B c) (hn : ¬ c.al n) (hl : ∀ id b, look id = some b → c.M id = some b) {t tx ty : TypeId} {y z : AV} {us ux : Value} (hy : VRel c y us) (hz : VRel c z ux) {s : Sem Next}
    (hrun : ∀ w : World, s.run P w = ((Builtin.append_ #[t, tx] ty #[us, ux]).run P w).andThen fun v w' => .ok (.value v) w') {v : AV} {d : Wr} (h : aAppend P look n t tx y z = some (v, d)) : OpOk P B n c s v d := by
  unfold aAppend at h
  split at h
  · rename_i e e' ht htx
    split at h
    · rename_i sz by_ zs hs hb hzz
      obtain ⟨i, hi, rfl, hib, hiz⟩ := info_of hs
      obtain rfl := hib by_ hb
      obtain ⟨zv, hz1, hz2⟩ := zero_cells hzz c
      have hiz := hiz zv hz1
      split at h
      · rename_i m xs hx
        obtain ⟨a, cap, news, sx⟩ := cellsOf_real g hl hx hz
        cases hm0 : Nat.beq m 0 with
        | true =>
          have hm0' := Nat.eq_of_beq_eq_true hm0
          subst hm0'
          have hnil : news = [] := List.length_eq_zero_iff.1 (by rw [sx.len]; simp)
          have hxs : xs = [] := List.length_eq_zero_iff.1 (by rw [sx.r.length, hnil]; rfl)
          subst hxs
          have hsrc : Src P i.size tx ux 0 [] c.w := by have := src_of htx sx rfl; rwa [hnil] at this
          simp only [hm0, cond_true] at h
          have main : ∀ (base : Option Addr) (k q : Nat), us = .slice base k q → k ≤ q → OpOk P B n c s y [] := by
            intro base k q hu hkq
            refine .still g (v' := us) ?_ hy
            rw [hrun, hu, run_append_nothing c.w t tx ty e i ht hi base k q hkq ux hsrc]; rfl
          split at h
          · simp only [Option.some.injEq, Prod.mk.injEq] at h
            obtain ⟨rfl, rfl⟩ := h
            generalize hu : us = u at hy
            have hy0 := hy
            cases hy
            exact main none 0 0 hu (Nat.le_refl _)
          · simp only [Option.some.injEq, Prod.mk.injEq] at h
            obtain ⟨rfl, rfl⟩ := h
            generalize hu : us = u at hy
            cases hy with
            | lst0 a cap ex he hm hn => exact main a 0 cap hu (Nat.zero_le _)
            | lst hb hr hc hn he hm => exact main _ _ _ hu hn
          · simp only [Option.some.injEq, Prod.mk.injEq] at h
            obtain ⟨rfl, rfl⟩ := h
            generalize hu : us = u at hy
            cases hy with
            | sl ha hb hs hn hc he hm => exact main _ _ _ hu (by omega)
          · cases h
        | false =>
          have hm0' := Nat.ne_of_beq_eq_false hm0
          simp only [hm0, cond_false] at h
          split at h
          · rename_i k old hy'
            obtain ⟨base, cap', olds, so⟩ := cellsOf_real g hl hy' hy
            cases hq : (Nat.ble ((k + m) * i.bytes) 140737488355328 && Nat.ble (k + m) 4611686018427387904 && Nat.beq zs.length i.size && Nat.ble 1 i.size && xs.all isCell && Nat.beq xs.length (m * i.size) && Nat.beq old.length (k * i.size)) with
            | false => simp only [hq, cond_false, reduceCtorEq] at h
            | true =>
              simp only [hq, cond_true] at h
              simp only [Bool.and_eq_true] at hq
              obtain ⟨⟨⟨⟨⟨⟨q1, q2⟩, q3⟩, q4⟩, q5⟩, q6⟩, q7⟩ := hq
              have q1 := Nat.le_of_ble_eq_true q1
              have q2 := Nat.le_of_ble_eq_true q2
              have q3 := Nat.eq_of_beq_eq_true q3
              have q4 := Nat.le_of_ble_eq_true q4
              have hsrc := src_of htx sx q5
              have hzs : zv.cells.size = i.size := by have := hz2.length; simp at this; omega
              have grow : cap' < k + m → OpOk P B n c s (.sl n 0 i.size (k + m) (k + m) false) [(n, some ⟨old ++ xs, e⟩)] := fun hg => grow_ok g hn ht hi hiz hzs q4 so hsrc sx.r hg q1 q2 hrun
              split at h
              · simp only [Option.some.injEq, Prod.mk.injEq] at h
                obtain ⟨rfl, rfl⟩ := h
                refine grow ?_
                have hu := so.u
                cases hy
                simp only [Value.slice.injEq] at hu
                omega
              · simp only [Option.some.injEq, Prod.mk.injEq] at h
                obtain ⟨rfl, rfl⟩ := h
                refine grow ?_
                have hu := so.u
                generalize us = u at hy hu
                cases hy with
                | lst0 a q ex he hm hn => simp only [Value.slice.injEq] at hu; have := he rfl; omega
                | lst hb hr hc hn he hm => simp only [Value.slice.injEq] at hu; have := he rfl; omega
              · rename_i id off esz k' cap ex
                have hu := so.u
                unfold cellsOf at hy'
                cases hb : look id with
                | none => simp [hb] at hy'
                | some b =>
                  simp only [hb] at hy'
                  cases hq : (Nat.ble (off + k' * i.size) b.cells.length && Nat.beq esz i.size) with
                  | false => simp [hq] at hy'
                  | true =>
                    simp only [hq, cond_true, Option.some.injEq, Prod.mk.injEq] at hy'
                    obtain ⟨rfl, hold⟩ := hy'
                    simp only [Bool.and_eq_true] at hq
                    obtain ⟨w1, w2⟩ := hq
                    have w1 := Nat.le_of_ble_eq_true w1
                    have w2 := Nat.eq_of_beq_eq_true w2
                    subst w2
                    have hM := hl id b hb
                    obtain ⟨arr, vs, rest, k1, k2, k3, -⟩ := g.cells hM
                    have hvl := k3.length
                    have hal : (vs ++ rest).length = arr.size := by rw [← k2]; simp
                    generalize hus : us = u at hy
                    cases hy with
                    | sl ha hb' hs' hkn hc he hm =>
                      rename_i cp arr' T
                      rw [hus] at hu
                      simp only [Value.slice.injEq] at hu
                      obtain ⟨hbase, -, hcp⟩ := hu
                      subst hcp
                      rw [k1] at hb'
                      simp only [Option.some.injEq, Obj.cells.injEq, and_true] at hb'
                      obtain ⟨rfl, rfl⟩ := hb'
                      have room : k' + m ≤ cp → s.run P c.w = .ok (.value (.slice (some ⟨c.f id, off, none⟩) (k' + m) cp)) (c.w.setRow (c.f id) (arr.toList.take (off + k' * i.size) ++ news ++ arr.toList.drop (off + k' * i.size + news.length)).toArray) := by
                        intro hroom
                        have hfit : off + (k' + m) * i.size ≤ arr.size := by
                          have : (k' + m) * i.size ≤ cp * i.size := Nat.mul_le_mul_right _ hroom
                          omega
                        rw [hrun, hus, run_append_room_row ht hi hsrc hroom k1 hfit]; rfl
                      cases hcap : Nat.ble (k' + m) cap with
                      | true =>
                        have hcap' := Nat.le_of_ble_eq_true hcap
                        simp only [hcap, cond_true, hb] at h
                        cases hf : Nat.ble (off + (k' + m) * i.size) b.cells.length with
                        | false => simp [hf] at h
                        | true =>
                          simp only [hf, cond_true, Option.some.injEq, Prod.mk.injEq] at h
                          obtain ⟨rfl, rfl⟩ := h
                          have hf := Nat.le_of_ble_eq_true hf
                          have hnl := hsrc.newsLen
                          refine .wrote g hM k1 k2 k3 (off := off + k' * i.size) (new := news) ?_ sx.r (room (by omega)) (.inl rfl) (fun c' st => ?_)
                          · rw [hnl, ← hvl]; rw [Nat.add_mul] at hf; omega
                          · refine VRel.step st ?_
                            exact .sl ha k1 hs' hcap' hc he hm
                      | false =>
                        have hcap' : ¬ k' + m ≤ cap := fun hh => by rw [Nat.ble_eq_true_of_le hh] at hcap; cases hcap
                        simp only [hcap, cond_false] at h
                        cases hex : ex with
                        | true =>
                          simp only [hex, cond_true, Option.some.injEq, Prod.mk.injEq] at h
                          obtain ⟨rfl, rfl⟩ := h
                          have := he hex
                          exact grow (by omega)
                        | false =>
                          simp only [hex, cond_false, hb] at h
                          cases hq : (Nat.beq off 0 && Nat.beq b.ty e) with
                          | false => simp only [hq, cond_false, reduceCtorEq] at h
                          | true =>
                            simp only [hq, cond_true, Option.some.injEq, Prod.mk.injEq] at h
                            obtain ⟨rfl, rfl⟩ := h
                            simp only [Bool.and_eq_true] at hq
                            have o0 := Nat.eq_of_beq_eq_true hq.1
                            have te := Nat.eq_of_beq_eq_true hq.2
                            subst o0
                            have hin : id ≠ n := fun h => hn (h ▸ ha)
                            by_cases hroom : k' + m ≤ cp
                            · -- in place, under a new number
                              have hrr := room hroom
                              have hnl := hsrc.newsLen
                              have hol : old = b.cells.take (k' * i.size) := by rw [← hold]; simp
                              have holr : Rels c (old ++ xs) (vs.take (k' * i.size) ++ news) := by rw [hol]; exact (k3.take _).append sx.r
                              simp only [Nat.zero_add] at hrr w1 hs'
                              have hmm : (k' + m) * i.size ≤ cp * i.size := Nat.mul_le_mul_right _ hroom
                              rw [Nat.add_mul] at hmm
                              have e0 : arr.toList.take (k' * i.size) ++ news ++ arr.toList.drop (k' * i.size + news.length) = (vs.take (k' * i.size) ++ news) ++ arr.toList.drop (k' * i.size + news.length) := by
                                congr 2; rw [k2, List.take_append_of_le_length (by omega)]
                              have hsz : (arr.toList.take (k' * i.size) ++ news ++ arr.toList.drop (k' * i.size + news.length)).toArray.size = arr.size := by
                                simp only [List.size_toArray, List.length_append, List.length_take, List.length_drop, Array.length_toList]; omega
                              generalize hA : (arr.toList.take (k' * i.size) ++ news ++ arr.toList.drop (k' * i.size + news.length)).toArray = A at hrr hsz
                              have hA' : A.toList = (vs.take (k' * i.size) ++ news) ++ arr.toList.drop (k' * i.size + news.length) := by rw [← hA]; simpa using e0
                              have st1 := put_step (n := id) g hM k1 hsz b.ty (old ++ xs)
                              have g1 := put_good (n := id) g hM k1 hsz hA' holr
                              have hn1 : ¬ (c.put id id A b.ty (old ++ xs)).al n := fun h => by
                                rcases h with h | h
                                · exact hn h
                                · exact hin h.symm
                              have hM1 : (c.put id id A b.ty (old ++ xs)).M id = some ⟨old ++ xs, b.ty⟩ := by simp [Cx.put]
                              have ho1 : (c.put id id A b.ty (old ++ xs)).w.heap[(c.put id id A b.ty (old ++ xs)).f id]? = some (.cells A b.ty) := setRow_heap _ _ _ _ _ _ k1
                              have st2 := pass_step g1 hn1 hM1 (old ++ xs) b.ty
                              have g2 := pass_good g1 hn1 hM1 ho1 hA' (holr.step st1)
                              refine ⟨_, _, (c.put id id A b.ty (old ++ xs)).pass n id (old ++ xs) b.ty, hrr, .inl rfl, ?_, st1.trans st2, g2, ?_, ?_⟩
                              · have hfn : ((c.put id id A b.ty (old ++ xs)).pass n id (old ++ xs) b.ty).f n = c.f id := by simp [Cx.pass, Cx.put]
                                have := VRel.sl (c := (c.put id id A b.ty (old ++ xs)).pass n id (old ++ xs) b.ty) (id := n) (off := 0) (esz := i.size) (n := k' + m) (cap := k' + m) (cap' := cp) (ex := false) (arr := A) (T := b.ty) (.inr rfl) (by rw [hfn]; exact ho1) (by rw [hsz]; omega) (Nat.le_refl _) hroom (fun h => by cases h) hm
                                rw [hfn] at this
                                exact this
                              · intro q
                                show ((c.al q ∨ q = id) ∨ q = n) ↔ _
                                constructor
                                · rintro ((h | rfl) | h)
                                  · exact .inl h
                                  · exact .inl ha
                                  · exact .inr h
                                · rintro (h | h)
                                  · exact .inl (.inl h)
                                  · exact .inr h
                              · intro q
                                show (if q = id then none else if q = n then some ⟨old ++ xs, b.ty⟩ else (if q = id then some ⟨old ++ xs, b.ty⟩ else c.M q)) = (if q = id then none else (if q = n then some ⟨old ++ xs, e⟩ else c.M q))
                                rw [te]
                                split
                                · rfl
                                · rfl
                            · obtain ⟨nx, v', c', r1, r2, r3, r4, r5, r6, r7⟩ := grow (by omega)
                              refine ⟨nx, v', c'.drop id, r1, r2, r3.step (drop_step _ _), r4.trans (drop_step _ _), drop_good r5 _, r6, fun q => ?_⟩
                              show (if q = id then none else c'.M q) = (if q = id then none else (if q = n then some ⟨old ++ xs, e⟩ else c.M q))
                              rw [r7 q]
                              rfl
              · cases h
          · cases h
      · cases h
    · cases h
  · cases h
end
end Go.Proofs.Ytfhcciepaangiaa
