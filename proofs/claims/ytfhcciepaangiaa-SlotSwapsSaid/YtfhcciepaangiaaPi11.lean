/- Each operation does in a world what the plain evaluator says (last part). -/
import Derived.Test.YtfhcciepaangiaaPi10
set_option linter.unusedVariables false
set_option linter.unusedSimpArgs false
namespace Go.Proofs.Ytfhcciepaangiaa
open Go.RowKit

section
variable {P : Program} {B n : Nat} {c : Cx} {ev : Operand → Value} {ρ : Operand → Option AV} {look : Nat → Option ABlk} {o : Oper}

theorem ok_len (g : Good B c) {t ty : TypeId} {y : AV} {u : Value} (hy : VRel c y u) {s : Sem Next} (hrun : ∀ w : World, s.run P w = ((Builtin.len_ #[t] ty #[u]).run P w).andThen fun v w' => .ok (.value v) w') {v : AV} {d : Wr} (h : aLen P t y = some (v, d)) : OpOk P B n c s v d := by
  unfold aLen at h
  split at h
  · rename_i e hu
    simp only [Option.some.injEq, Prod.mk.injEq] at h
    obtain ⟨rfl, rfl⟩ := h
    cases hy
    refine .still g ?_ (.sc _ rfl)
    rw [hrun]; simp [Builtin.len_, run_underlying hu, goInt]
  · rename_i e k cs ex hu
    simp only [Option.some.injEq, Prod.mk.injEq] at h
    obtain ⟨rfl, rfl⟩ := h
    cases hy <;> (refine .still g ?_ (.sc _ rfl); rw [hrun]; simp [Builtin.len_, run_underlying hu, goInt])
  · rename_i e id off esz k cap ex hu
    simp only [Option.some.injEq, Prod.mk.injEq] at h
    obtain ⟨rfl, rfl⟩ := h
    cases hy
    refine .still g ?_ (.sc _ rfl)
    rw [hrun]; simp [Builtin.len_, run_underlying hu, goInt]
  · rename_i s' hu
    simp only [Option.some.injEq, Prod.mk.injEq] at h
    obtain ⟨rfl, rfl⟩ := h
    cases hy
    refine .still g ?_ (.sc _ rfl)
    rw [hrun]; simp [Builtin.len_, run_underlying hu, goInt]
  · rename_i k e y hu
    simp only [Option.some.injEq, Prod.mk.injEq] at h
    obtain ⟨rfl, rfl⟩ := h
    refine .still g ?_ (.sc _ rfl)
    rw [hrun]; simp [Builtin.len_, run_underlying hu, goInt]
  · cases h
theorem ok_copy (g : Good B c) (hl : ∀ id b, look id = some b → c.M id = some b) {t tx ty : TypeId} {y z : AV} {ud us : Value} (hy : VRel c y ud) (hz : VRel c z us) {s : Sem Next}
    (hrun : ∀ w : World, s.run P w = ((Builtin.copy_ #[t, tx] ty #[ud, us]).run P w).andThen fun v w' => .ok (.value v) w') {v : AV} {d : Wr} (h : aCopy P look t tx y z = some (v, d)) : OpOk P B n c s v d := by
  unfold aCopy at h
  split at h
  · rename_i e hu
    split at h
    · rename_i sz hs
      split at h
      · rename_i m xs hx
        obtain ⟨a, cap, news, sx⟩ := cellsOf_real g hl hx hz
        split at h
        · rename_i id off esz k cp ex
          split at h
          · rename_i b hb
            cases hq : (Nat.ble (off + k * sz) b.cells.length && xs.all isCell && Nat.beq esz sz) with
            | false => simp only [hq, cond_false, reduceCtorEq] at h
            | true =>
              simp only [hq, cond_true, Option.some.injEq, Prod.mk.injEq] at h
              obtain ⟨rfl, rfl⟩ := h
              simp only [Bool.and_eq_true] at hq
              obtain ⟨⟨q1, q2⟩, q3⟩ := hq
              have q1 := Nat.le_of_ble_eq_true q1
              have hM := hl id b hb
              obtain ⟨arr, vs, rest, k1, k2, k3, -⟩ := g.cells hM
              have hvl := k3.length
              have hal : (vs ++ rest).length = arr.size := by rw [← k2]; simp
              generalize hud : ud = u at hy
              cases hy with
              | sl ha hb' hs' hkn hc he hm =>
                rename_i cp' arr' T
                have hmin : Nat.min m k ≤ m := Nat.min_le_left _ _
                have hmin' : Nat.min m k * sz ≤ k * sz := Nat.mul_le_mul_right _ (Nat.min_le_right _ _)
                have hmin2 : Nat.min m k * sz ≤ m * sz := Nat.mul_le_mul_right _ hmin
                have hf := first_run (P := P) sx hmin c.w (fun _ => rfl)
                have hnl : (news.take (Nat.min m k * sz)).length = Nat.min m k * sz := by rw [List.length_take, sx.len]; omega
                simp at hal
                have hst := run_storeCells_at P (c.f id) off b.ty (news.take (Nat.min m k * sz)) 0 arr c.w k1 (by rw [hnl]; omega) (fun v hv => cells_one sx.r q2 v (List.mem_of_mem_take hv))
                simp only [Nat.add_zero] at hst
                refine .wrote g hM k1 k2 k3 (off := off) (new := news.take (Nat.min m k * sz)) (by rw [hnl]; omega) (sx.r.take _) ?_ (.inl rfl) (fun c' st => .sc _ rfl)
                have hlen : (Builtin.lenOf us).run P c.w = .ok m c.w := by rw [sx.u]; rfl
                rw [hrun, hud]
                simp only [Builtin.copy_, Sem.run_bind, run_underlying hu, Result.andThen_ok, hlen, run_size hs, hf, hst, goInt, Sem.run_pure, List.getElem?_toArray, List.getElem?_cons_zero, List.getElem?_cons_succ]
          · cases h
        · cases h
      · cases h
    · cases h
  · cases h
theorem ok_clear (g : Good B c) (hl : ∀ id b, look id = some b → c.M id = some b) {t ty : TypeId} {y : AV} {u : Value} (hy : VRel c y u) {s : Sem Next} (hrun : ∀ w : World, s.run P w = ((Builtin.clear_ #[t] ty #[u]).run P w).andThen fun v w' => .ok (.value v) w') {v : AV} {d : Wr} (h : aClear P look t y = some (v, d)) : OpOk P B n c s v d := by
  have none_ : ∀ (e : TypeId) (a : Option Addr) (k q : Nat), P.underlying t = some (.slice e) → (a = none ∨ k = 0) → u = .slice a k q → OpOk P B n c s (.tup []) [] := by
    intro e a k q hu hk hue
    refine .still g (v' := .tuple #[]) ?_ (.tup .nil)
    rw [hrun, hue]
    rcases hk with rfl | rfl
    · simp [Builtin.clear_, run_underlying hu]
    · cases a <;> simp [Builtin.clear_, run_underlying hu]
  unfold aClear at h
  split at h
  · rename_i e hu
    split at h
    · simp only [Option.some.injEq, Prod.mk.injEq] at h
      obtain ⟨rfl, rfl⟩ := h
      cases hy
      exact none_ e none 0 0 hu (.inl rfl) rfl
    · simp only [Option.some.injEq, Prod.mk.injEq] at h
      obtain ⟨rfl, rfl⟩ := h
      cases hy with
      | lst0 a cap ex he hm hn => exact none_ e a 0 cap hu (.inr rfl) rfl
      | lst hb hr hc hn he hm => exact none_ e _ 0 _ hu (.inr rfl) rfl
    · simp only [Option.some.injEq, Prod.mk.injEq] at h
      obtain ⟨rfl, rfl⟩ := h
      cases hy with
      | sl ha hb hs hn hc he hm => exact none_ e _ 0 _ hu (.inr rfl) rfl
    · rename_i id off esz k cap ex
      split at h
      · rename_i sz zs b hs hz hb
        cases hq : (Nat.ble (off + (k + 1) * sz) b.cells.length && zs.all isCell && Nat.beq esz sz && Nat.beq zs.length sz && Nat.ble 1 sz) with
        | false => simp only [hq, cond_false, reduceCtorEq] at h
        | true =>
          simp only [hq, cond_true, Option.some.injEq, Prod.mk.injEq] at h
          obtain ⟨rfl, rfl⟩ := h
          simp only [Bool.and_eq_true] at hq
          obtain ⟨⟨⟨⟨q1, q2⟩, q3⟩, q4⟩, q5⟩ := hq
          have q1 := Nat.le_of_ble_eq_true q1
          have q4 := Nat.eq_of_beq_eq_true q4
          have q5 := Nat.le_of_ble_eq_true q5
          have hM := hl id b hb
          obtain ⟨arr, vs, rest, k1, k2, k3, -⟩ := g.cells hM
          have hvl := k3.length
          have hal : (vs ++ rest).length = arr.size := by rw [← k2]; simp
          obtain ⟨z, hz1, hz2⟩ := zero_cells hz c
          have hzl : z.cells.size = sz := by have := hz2.length; simp at this; omega
          have hzc := zeroCells_rep z.cells (by omega) (k + 1)
          have hrl : (rep z.cells.toList (k + 1)).length = (k + 1) * sz := by rw [rep_length]; simp [hzl]
          have hone : ∀ q, ∀ v ∈ rep z.cells.toList q, v.oneCell' = true := by
            intro q
            induction q with
            | zero => intro v hv; simp [rep] at hv
            | succ q ih =>
              intro v hv
              rcases List.mem_append.1 hv with hv | hv
              · exact cells_one hz2 q2 v hv
              · exact ih v hv
          simp at hal
          have hst := run_storeCells_at P (c.f id) off b.ty (rep z.cells.toList (k + 1)) 0 arr c.w k1 (by rw [hrl]; omega) (hone _)
          simp only [Nat.add_zero] at hst
          cases hy with
          | sl ha hb' hs' hkn hc he hm =>
            refine .wrote g hM k1 k2 k3 (off := off) (new := rep z.cells.toList (k + 1)) (by rw [hrl]; omega) (rep_rel hz2 _) ?_ (.inl rfl) (fun c' st => .tup .nil)
            rw [hrun]
            simp [Builtin.clear_, run_underlying hu, run_zero hz1, hzc, hst]
      · cases h
    · cases h
  · cases h
theorem bytes_rel : ∀ {cs : List AV} {l : List UInt8} {vs : List Value}, bytesOf cs = some l → Rels c cs vs → vs = l.map fun b => Value.int .u8 b.toNat
  | [], l, vs, h, r => by simp only [bytesOf, Option.some.injEq] at h; subst h; cases r; rfl
  | x :: xs, l, vs, h, r => by
    unfold bytesOf at h
    cases h1 : byteOf x with
    | none => simp [h1] at h
    | some b =>
      cases h2 : bytesOf xs with
      | none => simp [h1, h2] at h
      | some l' =>
        simp only [h1, h2, Option.some.injEq] at h
        subst h
        cases r with
        | cons r1 r2 =>
          rw [bytes_rel h2 r2, List.map_cons]
          congr 1
          unfold byteOf at h1
          split at h1
          · rename_i z
            cases hq : (decide (0 ≤ z) && decide (z < 256)) with
            | false => simp [hq] at h1
            | true =>
              simp only [hq, cond_true, Option.some.injEq] at h1
              subst h1
              simp only [Bool.and_eq_true, decide_eq_true_eq] at hq
              cases r1
              congr 1
              have : z.toNat % 256 = z.toNat := Nat.mod_eq_of_lt (by omega)
              simp [UInt8.toNat_ofNat, this]
              omega
          · cases h1
theorem byteCells_rel (s : ByteArray) : Rels c (byteCells s) (s.data.toList.map fun b => Value.int .u8 b.toNat) := by
  unfold byteCells
  generalize s.data.toList = l
  induction l with
  | nil => exact .nil
  | cons b l ih => exact .cons (.sc _ rfl) ih
theorem ok_conv (g : Good B c) (hn : ¬ c.al n) (hl : ∀ id b, look id = some b → c.M id = some b) {src dst : TypeId} {x : Operand} (ho : o.op = .convert src dst x) (hρ : ∀ x ∈ o.op.operands.toList, ∀ y, ρ x = some y → VRel c y (ev x)) (mx : x ∈ o.op.operands.toList) {v : AV} {d : Wr} (h : aConv P ρ look o src dst x = some (v, d)) : OpOk P B n c (execOp ev o) v d := by
  have hrun : ∀ w : World, (execOp ev o).run P w = ((convert src dst (ev x)).run P w).andThen fun v w' => .ok (.value v) w' := by
    intro w; simp [execOp, ho]
  unfold aConv at h
  split at h
  · rename_i s e h1 hs hd
    have ex : ev x = .string s := by have := hρ x mx _ h1; generalize ev x = q at this; cases this; rfl
    split at h
    · rename_i he
      cases hq : Nat.ble s.size 4611686018427387904 with
      | false => simp only [hq, cond_false, reduceCtorEq] at h
      | true =>
        simp only [hq, cond_true, Option.some.injEq, Prod.mk.injEq] at h
        obtain ⟨rfl, rfl⟩ := h
        have hq := Nat.le_of_ble_eq_true hq
        have hr := run_bytes_of_string (P := P) c.w src dst e s hs hd he
        have gd := drew_good g
        generalize hO : (Obj.cells (bytesRow s (grownCap c.w s.size 0 e)) e ((bytesRow s (grownCap c.w s.size 0 e)).size, (bytesRow s (grownCap c.w s.size 0 e)).size + 1)) = O at hr
        have st := ((drew_step c).trans (more_step gd O)).trans (tick_step (c.drew.more O) n)
        refine ⟨_, _, (c.drew.more O).tick n, by rw [hrun, ex, hr]; rfl, .inl rfl, ?_, st, tick_good (more_good gd O) n, fun _ => Iff.rfl, fun _ => rfl⟩
        refine VRel.step (tick_step _ n) ?_
        refine .lst (b := c.w.heap.size) (o := 0) (more_stable gd O) (byteCells_rel s) ?_ (grownCap_ge c.w s.size 0 e) (fun h => by cases h) (grownCap_le_maxLen _ _ _ _ (by unfold maxLen; omega))
        intro k v hv
        show (c.w.drew.alloc O).cell? _ = _
        rw [← hO]
        have := World.cell?_alloc_mark c.w.drew (bytesRow s (grownCap c.w s.size 0 e)) e ((bytesRow s (grownCap c.w s.size 0 e)).size, (bytesRow s (grownCap c.w s.size 0 e)).size + 1) (0 + k)
        refine this.trans ?_
        rw [Nat.zero_add]
        unfold bytesRow
        have hk : k < s.data.toList.length := by
          have := (List.getElem?_eq_some_iff.1 hv).1
          simpa using this
        rw [Array.getElem?_append_left (by simpa using hk)]
        rw [← Array.getElem?_toList]
        simpa using hv
    · cases h
  · rename_i y e h1 hs hd
    split at h
    · rename_i he
      split at h
      · rename_i m cs hc
        split at h
        · rename_i l hb
          simp only [Option.some.injEq, Prod.mk.injEq] at h
          obtain ⟨rfl, rfl⟩ := h
          obtain ⟨a, cap, news, sx⟩ := cellsOf_real g hl hc (hρ x mx _ h1)
          have hnews := bytes_rel hb sx.r
          have hlen : l.length = m := by have := sx.len; rw [hnews] at this; simpa using this
          refine .still g ?_ (.sc _ rfl)
          rw [hrun, sx.u]
          cases ha : a with
          | none =>
            have h0 := (sx.no ha).1
            have : l = [] := List.length_eq_zero_iff.1 (by omega)
            subst this
            subst h0
            have := run_convert_bytes_string (P := P) c.w src dst e none 0 cap hs he hd
            rw [this]
            rfl
          | some b =>
            rw [← hlen, run_convert_bytes_back c.w src dst e b cap l hs he hd (fun j hj => by
              refine sx.at_ b ha j _ ?_
              rw [hnews]
              simp [hj])]
            rfl
        · cases h
      · cases h
    · cases h
  · exact ok_plain g hρ h
end
end Go.Proofs.Ytfhcciepaangiaa
