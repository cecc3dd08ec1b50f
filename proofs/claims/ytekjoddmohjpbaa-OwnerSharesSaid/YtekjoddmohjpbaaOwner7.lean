/- What owner.Flights returns. -/
import Derived.Test.YtekjoddmohjpbaaOwner6
set_option linter.unusedVariables false
set_option linter.unusedSimpArgs false
namespace Go.Proofs.Ytekjoddmohjpbaa
open Go.RowKit
attribute [local go_sem ↓] Go.wp_at_zero Go.wp_at_succ

theorem info_str : (Try.prog.info? 9).map (fun i => (i.zero, i.size, i.bytes)) = some (some (.string ⟨#[]⟩), 1, 16) := by kernel_rfl

theorem stepA_str {ops : Array Oper} {o : Oper} {a : Act} {Q : Exit → Act → World → Prop} {K : Act → World → Prop} {E0 : Prop} {w : World} (hgd : o.guard = none) (s x : Operand) (ho : o.op = .call { callee := .builtin .append, args := #[s, x], argTypes := #[35, 35] })
    (base : Nat) (v : Value) (l : List ByteArray) (hs : a.eval s = v) (hown : strE.Own w base 9 v l) (B : Nat) (y : ByteArray) (hx : a.eval x = .slice (some ⟨B, 0, none⟩) 1 1) (cs : Array Value) (fr : Nat × Nat) (hb : Blk w B (.cells cs 9 fr)) (hcs : cs.toList = strE.enc y) (hroom : l.length + 1 ≤ 1000000000) (hbase : base ≤ w.heap.size)
    (h : ∀ g cap w', strE.Own w' base 9 (.slice (some ⟨g, 0, none⟩) (l.length + 1) cap) (l ++ [y]) → w.grownBy w' v.ownBlock → (v.ownBlock = some g ∨ g = w.heap.size) → g < w'.heap.size → K (a.put o.dst (.slice (some ⟨g, 0, none⟩) (l.length + 1) cap)) w') :
    if Region.wanted o (yielded ops a.tmps) = true then Oper.wp Try.prog o a w K Q else E0 := by
  obtain ⟨i0, hi, hz0, hz1, hz2⟩ := info_parts info_str
  refine step_append_lies (P := Try.prog) w hgd s x 35 ho base 9 i0 (.string ⟨#[]⟩) strE.size 16 Try.underlying35 hi hz0 hz1 hz2 rfl strE.pos v l.length (strE.flat l) hs hown ⟨B, 0, none⟩ 1 1 (strE.enc y) hx (by rw [strE.len, Nat.one_mul]) (fun j u hj => World.news_of_block hb j u (by rw [hcs]; exact hj)) (strE.one y) (by decide) (by unfold maxLen; omega) (by omega) hbase _ rfl ?_
  intro g cap w' h1 h2 h3 h4
  refine h g cap w' ?_ h2 h3 h4
  show w'.ownsRow base 9 strE.size _ (l ++ [y]).length (strE.flat (l ++ [y]))
  rw [Enc.flat_snoc, List.length_append]; exact h1

theorem wpA_str {ops : Array Oper} {o : Oper} {a : Act} {Q : Exit → Act → World → Prop} {rest : List Oper} {w : World} (hgd : o.guard = none) (s x : Operand) (ho : o.op = .call { callee := .builtin .append, args := #[s, x], argTypes := #[35, 35] })
    (base : Nat) (v : Value) (l : List ByteArray) (hs : a.eval s = v) (hown : strE.Own w base 9 v l) (B : Nat) (y : ByteArray) (hx : a.eval x = .slice (some ⟨B, 0, none⟩) 1 1) (cs : Array Value) (fr : Nat × Nat) (hb : Blk w B (.cells cs 9 fr)) (hcs : cs.toList = strE.enc y) (hroom : l.length + 1 ≤ 1000000000) (hbase : base ≤ w.heap.size)
    (h : ∀ g cap w', strE.Own w' base 9 (.slice (some ⟨g, 0, none⟩) (l.length + 1) cap) (l ++ [y]) → w.grownBy w' v.ownBlock → (v.ownBlock = some g ∨ g = w.heap.size) → g < w'.heap.size → wpList Try.prog ops Q rest (a.put o.dst (.slice (some ⟨g, 0, none⟩) (l.length + 1) cap)) w') :
    wpList Try.prog ops Q (o :: rest) a w := by
  obtain ⟨i0, hi, hz0, hz1, hz2⟩ := info_parts info_str
  refine wpList_append_lies (P := Try.prog) w hgd s x 35 ho base 9 i0 (.string ⟨#[]⟩) strE.size 16 Try.underlying35 hi hz0 hz1 hz2 rfl strE.pos v l.length (strE.flat l) hs hown ⟨B, 0, none⟩ 1 1 (strE.enc y) hx (by rw [strE.len, Nat.one_mul]) (fun j u hj => World.news_of_block hb j u (by rw [hcs]; exact hj)) (strE.one y) (by decide) (by unfold maxLen; omega) (by omega) hbase _ rfl ?_
  intro g cap w' h1 h2 h3 h4
  refine h g cap w' ?_ h2 h3 h4
  show w'.ownsRow base 9 strE.size _ (l ++ [y]).length (strE.flat (l ++ [y]))
  rw [Enc.flat_snoc, List.length_append]; exact h1

def flT (l : List OEntry) (s : ByteArray) (k : Nat) : List ByteArray := ((l.take k).filter (fun x => decide (x.own = s))).map OEntry.call
def flE (l : List OEntry) : Int := ochk l
def flL (l : List OEntry) (s : ByteArray) : List ByteArray := if ochk l ≠ 0 then [] else flT l s l.length
theorem flT_yes {l : List OEntry} {s : ByteArray} {k : Nat} (hk : k < l.length) (h : (el l k).own = s) : flT l s (k + 1) = flT l s k ++ [(el l k).call] := by
  unfold flT; rw [List.take_add_one, el_get hk]; simp [h]
theorem flT_no {l : List OEntry} {s : ByteArray} {k : Nat} (hk : k < l.length) (h : (el l k).own ≠ s) : flT l s (k + 1) = flT l s k := by
  unfold flT; rw [List.take_add_one, el_get hk]; simp [h]
theorem flT_len (l : List OEntry) (s : ByteArray) (k : Nat) : (flT l s k).length ≤ k := by
  unfold flT; rw [List.length_map]; exact Nat.le_trans (List.length_filter_le _ _) (List.length_take_le _ _)
set_option maxRecDepth 100000 in
set_option maxHeartbeats 2000000 in
theorem fl_any (a : Option Addr) (c : Nat) (l : List OEntry) (s : ByteArray) (w : World) (hs : entE.Slc w a c l) (hok : EntsOk l) :
    Calls Try.prog 14 #[.slice a l.length c, .string s] w fun e w' => ∃ v, e = .returned (.tuple #[v, .int .i64 (flE l)]) ∧ strE.Own w' w.heap.size 9 v (flL l s) ∧ Below w.heap.size w w' := by
  have hm := hs.max
  unfold maxLen at hm
  have HS := Lib.hid hs; have HOk := Lib.hid hok; clear hs hok
  generalize hr : flE l = r
  have HR := Lib.hid hr; clear hr
  generalize hrl : flL l s = rl
  have HRL := Lib.hid hrl; clear hrl
  go_enter Try.func14, Try.ntmps14
  go_wp2_with fail
  refine (ocheck_any a c l _ HS.out HOk.out).mono ?_
  rintro e w1 ⟨rfl, hb⟩
  have hB := hb; clear hb
  have hz := hB.size
  generalize hk : ochk l = k
  by_cases h0 : k = 0
  · subst h0
    have HE : Hid (r = 0) := Lib.hid (by rw [← HR.out]; exact hk)
    have HL : Hid (rl = flT l s l.length) := Lib.hid (by rw [← HRL.out, flL, hk]; rfl)
    have hle : l.length ≤ 24 := by
      have := hk
      unfold ochk at this
      split at this
      · cases this
      · omega
    clear hk
    go_wp2_with fail
    go_loopw [7, 17] (fun o i wr => ∃ j : Nat, j ≤ l.length ∧ i = .int .i64 j ∧ Hid (strE.Own wr w.heap.size 9 o (flT l s j)) ∧ Below w.heap.size w wr) (fun _ i _ => l.length - (intOf i).toNat)
    case atStart => exact ⟨0, by omega, rfl, Lib.hid (Enc.Own.nil _ _ _ _), hB⟩
    case round =>
      obtain ⟨j, hj, rfl, HO, hBr⟩ := hrel
      have hzr := hBr.size
      by_cases hlt : j < l.length
      · obtain ⟨b, off, rfl, hbl, e1, e2, e3⟩ := entE_cell (HS.out.row.below hBr (Nat.le_refl _)) j hlt
        obtain ⟨a2, c2, rfl, -⟩ := HO.out.slc
        have HN := Lib.hid (flT_len l s j)
        by_cases hy : (el l j).own = s
        · have HT := Lib.hid (flT_yes hlt hy)
          have q1 := str_same hy
          clear hy
          generalize el l j = x at e1 e2 e3 q1 HT
          obtain ⟨xc, xo, xf⟩ := x
          simp only at e1 e2 e3 q1
          go_wp2_with (at_builtin; refine wpA_str rfl _ _ rfl w.heap.size _ (flT l s j) rfl ?c0 _ xc rfl #[.string xc] (0, 0) ?c1 rfl ?c2 ?c3 ?_)
          case c0 => exact HO.out.after (by repeat' (first | exact Below.refl _ _ | assumption | (with_reducible refine Below.alloc ?_ ?_ _) | (with_reducible refine below_drewN ?_ _) | (with_reducible refine Below.drew ?_) | (with_reducible refine Below.setCell ?_ ?_ _) | go_size))
          case c1 => exact Blk.newAt _ _ _ (by first | rfl | (simp; done))
          case c2 => have := HN.out; omega
          case c3 => first | omega | (simp; omega)
          intro g cap w2 hown2 hgrow hat hlt2
          have hB2 := Below.grown (B := w.heap.size) (a := w) (hBr.trans (by repeat' (first | exact Below.refl _ _ | assumption | (with_reducible refine Below.alloc ?_ ?_ _) | (with_reducible refine below_drewN ?_ _) | (with_reducible refine Below.drew ?_) | (with_reducible refine Below.setCell ?_ ?_ _) | go_size))) hgrow (by simp; omega) (fun k hk => by have := (HO.out.lt k hk).1; omega)
          have HO2 := Lib.hid hown2; clear hown2 hgrow
          go_wp2_with fail
          exact ⟨⟨j + 1, hlt, rfl, Lib.hid (by rw [HT.out]; exact HO2.out), hB2⟩, by simp [intOf]; omega⟩
        · have HT := Lib.hid (flT_no hlt hy)
          have q1 := str_diff hy
          clear hy
          generalize el l j = x at e1 e2 e3 q1 HT
          obtain ⟨xc, xo, xf⟩ := x
          simp only at e1 e2 e3 q1
          go_wp2_with fail
          exact ⟨⟨j + 1, hlt, rfl, Lib.hid (by rw [HT.out]; exact HO.out.after (by repeat' (first | exact Below.refl _ _ | assumption | (with_reducible refine Below.alloc ?_ ?_ _) | (with_reducible refine below_drewN ?_ _) | (with_reducible refine Below.drew ?_) | (with_reducible refine Below.setCell ?_ ?_ _) | go_size))), hBr.trans (by repeat' (first | exact Below.refl _ _ | assumption | (with_reducible refine Below.alloc ?_ ?_ _) | (with_reducible refine below_drewN ?_ _) | (with_reducible refine Below.drew ?_) | (with_reducible refine Below.setCell ?_ ?_ _) | go_size))⟩, by simp [intOf]; omega⟩
      · obtain rfl : j = l.length := by omega
        go_wp2_with fail
        go_returns
        exact ⟨_, ret_eq (by rw [HE.out]; rfl), by rw [HL.out]; exact HO.out, hBr⟩
  · have hk' : (k != 0) = true := by simpa using h0
    have HE : Hid (r = k) := Lib.hid (by rw [← HR.out]; exact hk)
    have HL : Hid (rl = []) := Lib.hid (by rw [← HRL.out, flL, hk, if_pos h0])
    clear h0 hk
    go_wp2_with fail
    go_returns
    exact ⟨_, ret_eq (by rw [HE.out]; rfl), by rw [HL.out]; exact Enc.Own.nil _ _ _ _, hB⟩

end Go.Proofs.Ytekjoddmohjpbaa
