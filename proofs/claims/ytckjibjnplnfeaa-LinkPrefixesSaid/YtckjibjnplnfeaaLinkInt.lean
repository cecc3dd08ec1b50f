/- Appending a number. -/
import Derived.Test.YtckjibjnplnfeaaGen
import Derived.Deep.AppendLies
set_option linter.unusedVariables false
set_option linter.unusedSimpArgs false
namespace Go.Proofs.Ytckjibjnplnfeaa
open Go.RowKit
attribute [local go_sem ↓] Go.wp_at_zero Go.wp_at_succ

theorem info_int : (Try.prog.info? 3).map (fun i => (i.zero, i.size, i.bytes)) = some (some (.int .i64 0), 1, 8) := by kernel_rfl

theorem stepA_int {ops : Array Oper} {o : Oper} {a : Act} {Q : Exit → Act → World → Prop} {K : Act → World → Prop} {E0 : Prop} {w : World} (hgd : o.guard = none) (s x : Operand) (ho : o.op = .call { callee := .builtin .append, args := #[s, x], argTypes := #[23, 23] })
    (base : Nat) (v : Value) (l : List Int) (hs : a.eval s = v) (hown : intE.Own w base 3 v l) (B : Nat) (y : Int) (hx : a.eval x = .slice (some ⟨B, 0, none⟩) 1 1) (cs : Array Value) (fr : Nat × Nat) (hb : Blk w B (.cells cs 3 fr)) (hcs : cs.toList = intE.enc y) (hroom : l.length + 1 ≤ 1000000000) (hbase : base ≤ w.heap.size)
    (h : ∀ g cap w', intE.Own w' base 3 (.slice (some ⟨g, 0, none⟩) (l.length + 1) cap) (l ++ [y]) → w.grownBy w' v.ownBlock → (v.ownBlock = some g ∨ g = w.heap.size) → g < w'.heap.size → K (a.put o.dst (.slice (some ⟨g, 0, none⟩) (l.length + 1) cap)) w') :
    if Region.wanted o (yielded ops a.tmps) = true then Oper.wp Try.prog o a w K Q else E0 := by
  obtain ⟨i0, hi, hz0, hz1, hz2⟩ := info_parts info_int
  refine step_append_lies (P := Try.prog) w hgd s x 23 ho base 3 i0 (.int .i64 0) intE.size 8 Try.underlying23 hi hz0 hz1 hz2 rfl intE.pos v l.length (intE.flat l) hs hown ⟨B, 0, none⟩ 1 1 (intE.enc y) hx (by rw [intE.len, Nat.one_mul]) (fun j u hj => World.news_of_block hb j u (by rw [hcs]; exact hj)) (intE.one y) (by decide) (by unfold maxLen; omega) (by omega) hbase _ rfl ?_
  intro g cap w' h1 h2 h3 h4
  refine h g cap w' ?_ h2 h3 h4
  show w'.ownsRow base 3 intE.size _ (l ++ [y]).length (intE.flat (l ++ [y]))
  rw [Enc.flat_snoc, List.length_append]; exact h1

theorem wpA_int {ops : Array Oper} {o : Oper} {a : Act} {Q : Exit → Act → World → Prop} {rest : List Oper} {w : World} (hgd : o.guard = none) (s x : Operand) (ho : o.op = .call { callee := .builtin .append, args := #[s, x], argTypes := #[23, 23] })
    (base : Nat) (v : Value) (l : List Int) (hs : a.eval s = v) (hown : intE.Own w base 3 v l) (B : Nat) (y : Int) (hx : a.eval x = .slice (some ⟨B, 0, none⟩) 1 1) (cs : Array Value) (fr : Nat × Nat) (hb : Blk w B (.cells cs 3 fr)) (hcs : cs.toList = intE.enc y) (hroom : l.length + 1 ≤ 1000000000) (hbase : base ≤ w.heap.size)
    (h : ∀ g cap w', intE.Own w' base 3 (.slice (some ⟨g, 0, none⟩) (l.length + 1) cap) (l ++ [y]) → w.grownBy w' v.ownBlock → (v.ownBlock = some g ∨ g = w.heap.size) → g < w'.heap.size → wpList Try.prog ops Q rest (a.put o.dst (.slice (some ⟨g, 0, none⟩) (l.length + 1) cap)) w') :
    wpList Try.prog ops Q (o :: rest) a w := by
  obtain ⟨i0, hi, hz0, hz1, hz2⟩ := info_parts info_int
  refine wpList_append_lies (P := Try.prog) w hgd s x 23 ho base 3 i0 (.int .i64 0) intE.size 8 Try.underlying23 hi hz0 hz1 hz2 rfl intE.pos v l.length (intE.flat l) hs hown ⟨B, 0, none⟩ 1 1 (intE.enc y) hx (by rw [intE.len, Nat.one_mul]) (fun j u hj => World.news_of_block hb j u (by rw [hcs]; exact hj)) (intE.one y) (by decide) (by unfold maxLen; omega) (by omega) hbase _ rfl ?_
  intro g cap w' h1 h2 h3 h4
  refine h g cap w' ?_ h2 h3 h4
  show w'.ownsRow base 3 intE.size _ (l ++ [y]).length (intE.flat (l ++ [y]))
  rw [Enc.flat_snoc, List.length_append]; exact h1

end Go.Proofs.Ytckjibjnplnfeaa
