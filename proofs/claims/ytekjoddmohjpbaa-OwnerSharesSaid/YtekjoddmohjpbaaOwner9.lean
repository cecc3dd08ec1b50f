/- Insert at nil. -/
import Derived.Test.YtekjoddmohjpbaaOwner8
set_option linter.unusedVariables false
set_option linter.unusedSimpArgs false
namespace Go.Proofs.Ytekjoddmohjpbaa
open Go.RowKit
attribute [local go_sem ↓] Go.wp_at_zero Go.wp_at_succ

theorem stepA_ent {ops : Array Oper} {o : Oper} {a : Act} {Q : Exit → Act → World → Prop} {K : Act → World → Prop} {E0 : Prop} {w : World} (hgd : o.guard = none) (s x : Operand) (ho : o.op = .call { callee := .builtin .append, args := #[s, x], argTypes := #[22, 22] })
    (base : Nat) (v : Value) (l : List OEntry) (hs : a.eval s = v) (hown : entE.Own w base 32 v l) (B : Nat) (y : OEntry) (hx : a.eval x = .slice (some ⟨B, 0, none⟩) 1 1) (cs : Array Value) (fr : Nat × Nat) (hb : Blk w B (.cells cs 32 fr)) (hcs : cs.toList = entE.enc y) (hroom : l.length + 1 ≤ 1000000000) (hbase : base ≤ w.heap.size)
    (h : ∀ g cap w', entE.Own w' base 32 (.slice (some ⟨g, 0, none⟩) (l.length + 1) cap) (l ++ [y]) → w.grownBy w' v.ownBlock → (v.ownBlock = some g ∨ g = w.heap.size) → g < w'.heap.size → K (a.put o.dst (.slice (some ⟨g, 0, none⟩) (l.length + 1) cap)) w') :
    if Region.wanted o (yielded ops a.tmps) = true then Oper.wp Try.prog o a w K Q else E0 := by
  obtain ⟨i0, hi, hz0, hz1, hz2⟩ := info_parts info_ent
  refine step_append_lies (P := Try.prog) w hgd s x 22 ho base 32 i0 (.agg #[.string ⟨#[]⟩, .string ⟨#[]⟩, .string ⟨#[]⟩]) entE.size 48 Try.underlying22 hi hz0 hz1 hz2 rfl entE.pos v l.length (entE.flat l) hs hown ⟨B, 0, none⟩ 1 1 (entE.enc y) hx (by rw [entE.len, Nat.one_mul]) (fun j u hj => World.news_of_block hb j u (by rw [hcs]; exact hj)) (entE.one y) (by decide) (by unfold maxLen; omega) (by omega) hbase _ rfl ?_
  intro g cap w' h1 h2 h3 h4
  refine h g cap w' ?_ h2 h3 h4
  show w'.ownsRow base 32 entE.size _ (l ++ [y]).length (entE.flat (l ++ [y]))
  rw [Enc.flat_snoc, List.length_append]; exact h1

theorem wpA_ent {ops : Array Oper} {o : Oper} {a : Act} {Q : Exit → Act → World → Prop} {rest : List Oper} {w : World} (hgd : o.guard = none) (s x : Operand) (ho : o.op = .call { callee := .builtin .append, args := #[s, x], argTypes := #[22, 22] })
    (base : Nat) (v : Value) (l : List OEntry) (hs : a.eval s = v) (hown : entE.Own w base 32 v l) (B : Nat) (y : OEntry) (hx : a.eval x = .slice (some ⟨B, 0, none⟩) 1 1) (cs : Array Value) (fr : Nat × Nat) (hb : Blk w B (.cells cs 32 fr)) (hcs : cs.toList = entE.enc y) (hroom : l.length + 1 ≤ 1000000000) (hbase : base ≤ w.heap.size)
    (h : ∀ g cap w', entE.Own w' base 32 (.slice (some ⟨g, 0, none⟩) (l.length + 1) cap) (l ++ [y]) → w.grownBy w' v.ownBlock → (v.ownBlock = some g ∨ g = w.heap.size) → g < w'.heap.size → wpList Try.prog ops Q rest (a.put o.dst (.slice (some ⟨g, 0, none⟩) (l.length + 1) cap)) w') :
    wpList Try.prog ops Q (o :: rest) a w := by
  obtain ⟨i0, hi, hz0, hz1, hz2⟩ := info_parts info_ent
  refine wpList_append_lies (P := Try.prog) w hgd s x 22 ho base 32 i0 (.agg #[.string ⟨#[]⟩, .string ⟨#[]⟩, .string ⟨#[]⟩]) entE.size 48 Try.underlying22 hi hz0 hz1 hz2 rfl entE.pos v l.length (entE.flat l) hs hown ⟨B, 0, none⟩ 1 1 (entE.enc y) hx (by rw [entE.len, Nat.one_mul]) (fun j u hj => World.news_of_block hb j u (by rw [hcs]; exact hj)) (entE.one y) (by decide) (by unfold maxLen; omega) (by omega) hbase _ rfl ?_
  intro g cap w' h1 h2 h3 h4
  refine h g cap w' ?_ h2 h3 h4
  show w'.ownsRow base 32 entE.size _ (l ++ [y]).length (entE.flat (l ++ [y]))
  rw [Enc.flat_snoc, List.length_append]; exact h1

set_option maxRecDepth 100000 in
set_option maxHeartbeats 1000000 in
theorem insert_nil (B : Nat) (y : OEntry) (w : World) (hb : Blk w B (.cells #[.string y.call, .string y.own, .string y.off] 32)) :
    Calls Try.prog 32 #[.slice none 0 0, .int .i64 0, .slice (some ⟨B, 0, none⟩) 1 1] w fun e w' => ∃ g cap, e = .returned (.slice (some ⟨g, 0, none⟩) 1 cap) ∧ entE.Own w' w.heap.size 32 (.slice (some ⟨g, 0, none⟩) 1 cap) [y] ∧ Below w.heap.size w w' := by
  have HB := Lib.hid hb; clear hb
  go_enter Try.func32, Try.ntmps32
  go_wp2_with (at_builtin; refine wpA_ent rfl _ _ rfl w.heap.size _ [] rfl ?c0 _ y rfl #[.string y.call, .string y.own, .string y.off] (0, 0) ?c1 rfl ?c2 ?c3 ?_)
  case c0 => exact Enc.Own.nil _ _ _ _
  case c1 => exact HB.out
  case c2 => simp
  case c3 => exact Nat.le_refl _
  intro g cap w2 hown2 hgrow hat hlt2
  have hB2 := Below.grown (B := w.heap.size) (a := w) (Below.refl _ _) hgrow (Nat.le_refl _) (fun k hk => by cases hk)
  have HO2 := Lib.hid hown2; clear hown2 hgrow
  go_wp2_with fail
  go_returns
  exact ⟨g, cap, rfl, HO2.out, hB2⟩

end Go.Proofs.Ytekjoddmohjpbaa
