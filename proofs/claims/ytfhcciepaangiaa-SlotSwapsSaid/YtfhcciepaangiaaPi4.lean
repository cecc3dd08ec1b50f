/- How the run's own memory changes: a number is given out, a block is made, written, handed on. -/
import Derived.Test.YtfhcciepaangiaaPi3
import Derived.Laws.CopyRow
import Derived.Laws.Cells
import Derived.Laws.Tables
set_option linter.unusedVariables false
set_option linter.unusedSimpArgs false
namespace Go.Proofs.Ytfhcciepaangiaa
open Go.RowKit

theorem Good.lt {B : Nat} {c : Cx} (g : Good B c) {id : Nat} {blk : ABlk} (h : c.M id = some blk) : c.f id < c.w.heap.size := by
  obtain ⟨arr, vs, rest, hb, -⟩ := g.blk id blk h
  exact heap_lt hb
def Cx.tick (c : Cx) (n : Nat) : Cx := { c with al := fun id => c.al id ∨ id = n }
theorem tick_step (c : Cx) (n : Nat) : Step c (c.tick n) := ⟨rfl, rfl, rfl, Nat.le_refl _, fun _ _ _ => rfl, fun _ _ h => h, fun _ _ => rfl, fun _ h => .inl h, fun _ => Iff.rfl, fun b arr T h => ⟨arr, h, rfl⟩, Nat.le_refl _⟩
theorem tick_good {B : Nat} {c : Cx} (g : Good B c) (n : Nat) : Good B (c.tick n) :=
  ⟨g.hB, fun id blk h => ⟨(g.low id blk h).1, .inl (g.low id blk h).2⟩, fun id blk h => by
    obtain ⟨arr, vs, rest, h1, h2, h3⟩ := g.blk id blk h
    exact ⟨arr, vs, rest, h1, h2, h3.step (tick_step c n)⟩, g.nol, g.inj⟩

/- a new block of the run's own -/
def Cx.new (c : Cx) (n : Nat) (arr : Array Value) (T : TypeId) (cells : List AV) : Cx :=
  { w := c.w.alloc (.cells arr T), f := fun id => if id = n then c.w.heap.size else c.f id, al := fun id => c.al id ∨ id = n, M := fun id => if id = n then some ⟨cells, T⟩ else c.M id, no := c.no }
theorem new_step {B : Nat} {c : Cx} (g : Good B c) {n : Nat} (hn : ¬ c.al n) (arr : Array Value) (T : TypeId) (cells : List AV) : Step c (c.new n arr T cells) := by
  refine ⟨rfl, rfl, rfl, by simp [Cx.new], fun b hb _ => Below.heap_alloc _ _ b hb, fun b hb ho => ?_, fun id hi => ?_, fun _ h => .inl h, fun _ => Iff.rfl, fun b a' T' h => ⟨a', ?_, rfl⟩, Nat.le_refl _⟩
  · obtain ⟨id, blk, hM, hf⟩ := ho
    by_cases h : id = n
    · simp only [Cx.new, h, if_true] at hf; omega
    · simp only [Cx.new, h, if_false] at hM hf; exact ⟨id, blk, hM, hf⟩
  · have : id ≠ n := fun h => hn (h ▸ hi)
    simp [Cx.new, this]
  · show (c.w.alloc (.cells arr T)).heap[b]? = _
    rw [Below.heap_alloc _ _ b (heap_lt h)]; exact h
theorem alloc_last (w : World) (o : Obj) : (w.alloc o).heap[w.heap.size]? = some o := by show (w.heap.push o)[w.heap.size]? = some o; simp
theorem new_good {B : Nat} {c : Cx} (g : Good B c) {n : Nat} (hn : ¬ c.al n) {arr : Array Value} {T : TypeId} {cells : List AV} {vs rest : List Value} (h1 : arr.toList = vs ++ rest) (h2 : Rels c cells vs) : Good B (c.new n arr T cells) := by
  have st := new_step g hn arr T cells
  have hB := g.hB
  refine ⟨by simp [Cx.new]; omega, fun id blk h => ?_, fun id blk h => ?_, g.nol, fun id id' blk blk' h h' hf => ?_⟩
  · by_cases hi : id = n
    · subst hi; simp [Cx.new]; exact hB
    · simp only [Cx.new, hi, if_false] at h ⊢; exact ⟨(g.low id blk h).1, .inl (g.low id blk h).2⟩
  · by_cases hi : id = n
    · subst hi
      simp only [Cx.new, if_true, Option.some.injEq] at h
      subst h
      exact ⟨arr, vs, rest, by simp only [Cx.new, if_true]; exact alloc_last _ _, h1, h2.step st⟩
    · have hM : c.M id = some blk := by simpa [Cx.new, hi] using h
      obtain ⟨a', v', r', k1, k2, k3⟩ := g.blk id blk hM
      refine ⟨a', v', r', ?_, k2, k3.step st⟩
      simp only [Cx.new, hi, if_false]
      rw [Below.heap_alloc _ _ _ (heap_lt k1)]; exact k1
  · by_cases hi : id = n <;> by_cases hi' : id' = n
    · rw [hi, hi']
    · exfalso
      have hM : c.M id' = some blk' := by simpa [Cx.new, hi'] using h'
      have := g.lt hM
      simp only [Cx.new, hi, hi', if_true, if_false] at hf; omega
    · exfalso
      have hM : c.M id = some blk := by simpa [Cx.new, hi] using h
      have := g.lt hM
      simp only [Cx.new, hi, hi', if_true, if_false] at hf; omega
    · simp only [Cx.new, hi, hi', if_false] at h h' hf; exact g.inj id id' blk blk' h h' hf

/- a block of the run's own is written; under its old number, or under a new one -/
def Cx.put (c : Cx) (n id : Nat) (arr : Array Value) (T : TypeId) (cells : List AV) : Cx :=
  { w := c.w.setRow (c.f id) arr, f := c.f, al := fun k => c.al k ∨ k = n, M := fun k => if k = id then some ⟨cells, T⟩ else c.M k, no := c.no }
theorem put_step {B : Nat} {c : Cx} (g : Good B c) {n id : Nat} {blk : ABlk} (hM : c.M id = some blk) {old arr : Array Value} (ho : c.w.heap[c.f id]? = some (.cells old blk.ty)) (hs : arr.size = old.size) (T : TypeId) (cells : List AV) : Step c (c.put n id arr T cells) := by
  refine ⟨rfl, rfl, rfl, by simp [Cx.put], fun b hb hn => ?_, fun b hb ho => ?_, fun _ _ => rfl, fun _ h => .inl h, fun _ => Iff.rfl, fun b a' T' h => ?_, Nat.le_refl _⟩
  · show (c.w.setRow (c.f id) arr).heap[b]? = _
    exact setRow_other _ _ _ _ (fun h => hn ⟨id, blk, hM, h.symm⟩)
  · obtain ⟨k, bk, hk, hf⟩ := ho
    by_cases h : k = id
    · exact ⟨id, blk, hM, h ▸ hf⟩
    · simp only [Cx.put, h, if_false] at hk; exact ⟨k, bk, hk, hf⟩
  · by_cases hb : b = c.f id
    · subst hb
      rw [ho] at h
      simp only [Option.some.injEq, Obj.cells.injEq, and_true] at h
      obtain ⟨rfl, rfl⟩ := h
      exact ⟨arr, setRow_heap _ _ _ _ _ _ ho, hs⟩
    · exact ⟨a', by show (c.w.setRow (c.f id) arr).heap[b]? = _; rw [setRow_other _ _ _ _ hb]; exact h, rfl⟩
theorem put_good {B : Nat} {c : Cx} (g : Good B c) {n id : Nat} {blk : ABlk} (hM : c.M id = some blk) {old arr : Array Value} (ho : c.w.heap[c.f id]? = some (.cells old blk.ty)) (hs : arr.size = old.size) {cells : List AV} {vs rest : List Value} (h1 : arr.toList = vs ++ rest) (h2 : Rels c cells vs) : Good B (c.put n id arr blk.ty cells) := by
  have st := put_step (n := n) g hM ho hs blk.ty cells
  refine ⟨by simpa [Cx.put] using g.hB, fun k bk h => ?_, fun k bk h => ?_, g.nol, fun k k' bk bk' h h' hf => ?_⟩
  · by_cases hk : k = id
    · subst hk; exact ⟨(g.low k blk hM).1, .inl (g.low k blk hM).2⟩
    · simp only [Cx.put, hk, if_false] at h; exact ⟨(g.low k bk h).1, .inl (g.low k bk h).2⟩
  · by_cases hk : k = id
    · subst hk
      simp only [Cx.put, if_true, Option.some.injEq] at h
      subst h
      exact ⟨arr, vs, rest, setRow_heap _ _ _ _ _ _ ho, h1, h2.step st⟩
    · have hM' : c.M k = some bk := by simpa [Cx.put, hk] using h
      obtain ⟨a', v', r', k1, k2, k3⟩ := g.blk k bk hM'
      refine ⟨a', v', r', ?_, k2, k3.step st⟩
      show (c.w.setRow (c.f id) arr).heap[c.f k]? = _
      rw [setRow_other _ _ _ _ (fun he => hk (g.inj k id bk blk hM' hM he))]; exact k1
  · have e1 : ∃ b1, c.M k = some b1 := by
      by_cases hk : k = id
      · exact ⟨blk, hk ▸ hM⟩
      · exact ⟨bk, by simpa [Cx.put, hk] using h⟩
    have e2 : ∃ b1, c.M k' = some b1 := by
      by_cases hk : k' = id
      · exact ⟨blk, hk ▸ hM⟩
      · exact ⟨bk', by simpa [Cx.put, hk] using h'⟩
    obtain ⟨b1, e1⟩ := e1
    obtain ⟨b2, e2⟩ := e2
    exact g.inj k k' b1 b2 e1 e2 hf
/- a number is given up: its block is written no more -/
def Cx.drop (c : Cx) (id : Nat) : Cx := { c with M := fun k => if k = id then none else c.M k }
theorem drop_step (c : Cx) (id : Nat) : Step c (c.drop id) := by
  refine ⟨rfl, rfl, rfl, Nat.le_refl _, fun _ _ _ => rfl, fun b _ ho => ?_, fun _ _ => rfl, fun _ h => h, fun _ => Iff.rfl, fun b arr T h => ⟨arr, h, rfl⟩, Nat.le_refl _⟩
  obtain ⟨k, bk, hk, hf⟩ := ho
  by_cases h : k = id
  · simp [Cx.drop, h] at hk
  · simp only [Cx.drop, h, if_false] at hk; exact ⟨k, bk, hk, hf⟩
theorem drop_M {c : Cx} {id k : Nat} {bk : ABlk} (h : (c.drop id).M k = some bk) : c.M k = some bk := by
  by_cases hk : k = id
  · simp [Cx.drop, hk] at h
  · simpa [Cx.drop, hk] using h
theorem drop_good {B : Nat} {c : Cx} (g : Good B c) (id : Nat) : Good B (c.drop id) :=
  ⟨g.hB, fun k bk h => g.low k bk (drop_M h), fun k bk h => by
    obtain ⟨a', v', r', k1, k2, k3⟩ := g.blk k bk (drop_M h)
    exact ⟨a', v', r', k1, k2, k3.step (drop_step c id)⟩, g.nol, fun k k' bk bk' h h' hf => g.inj k k' bk bk' (drop_M h) (drop_M h') hf⟩
/- a block goes on under a new number -/
def Cx.pass (c : Cx) (n id : Nat) (cells : List AV) (T : TypeId) : Cx :=
  { w := c.w, f := fun k => if k = n then c.f id else c.f k, al := fun k => c.al k ∨ k = n, M := fun k => if k = id then none else if k = n then some ⟨cells, T⟩ else c.M k, no := c.no }
theorem pass_step {B : Nat} {c : Cx} (g : Good B c) {n id : Nat} (hn : ¬ c.al n) {blk : ABlk} (hM : c.M id = some blk) (cells : List AV) (T : TypeId) : Step c (c.pass n id cells T) := by
  refine ⟨rfl, rfl, rfl, Nat.le_refl _, fun _ _ _ => rfl, fun b _ ho => ?_, fun k hk => ?_, fun _ h => .inl h, fun _ => Iff.rfl, fun b arr T h => ⟨arr, h, rfl⟩, Nat.le_refl _⟩
  · obtain ⟨k, bk, hk, hf⟩ := ho
    by_cases h : k = id
    · simp [Cx.pass, h] at hk
    · by_cases h' : k = n
      · subst h'; simp only [Cx.pass, if_true] at hf; exact ⟨id, blk, hM, hf⟩
      · simp only [Cx.pass, h, h', if_false] at hk hf; exact ⟨k, bk, hk, hf⟩
  · have : k ≠ n := fun h => hn (h ▸ hk)
    simp [Cx.pass, this]
theorem pass_good {B : Nat} {c : Cx} (g : Good B c) {n id : Nat} (hn : ¬ c.al n) {blk : ABlk} (hM : c.M id = some blk) {cells : List AV} {arr : Array Value} {vs rest : List Value} (ho : c.w.heap[c.f id]? = some (.cells arr blk.ty)) (h1 : arr.toList = vs ++ rest) (h2 : Rels c cells vs) : Good B (c.pass n id cells blk.ty) := by
  have st := pass_step g hn hM cells blk.ty
  have hid : id ≠ n := fun h => hn (h ▸ (g.low id blk hM).2)
  have hk0 : ∀ k bk, (c.pass n id cells blk.ty).M k = some bk → k ≠ id ∧ (k = n ∨ (k ≠ n ∧ c.M k = some bk)) := by
    intro k bk h
    by_cases hk : k = id
    · simp [Cx.pass, hk] at h
    · by_cases hk' : k = n
      · exact ⟨hk, .inl hk'⟩
      · simp only [Cx.pass, hk, hk', if_false] at h; exact ⟨hk, .inr ⟨hk', h⟩⟩
  refine ⟨g.hB, fun k bk h => ?_, fun k bk h => ?_, g.nol, fun k k' bk bk' h h' hf => ?_⟩
  · obtain ⟨_, rfl | ⟨hk, hM'⟩⟩ := hk0 k bk h
    · simp only [Cx.pass, if_true]; exact ⟨(g.low id blk hM).1, .inr trivial⟩
    · simp only [Cx.pass, hk, if_false]; exact ⟨(g.low k bk hM').1, .inl (g.low k bk hM').2⟩
  · obtain ⟨hki, rfl | ⟨hk, hM'⟩⟩ := hk0 k bk h
    · simp only [Cx.pass, hki, if_true, if_false, Option.some.injEq] at h
      subst h
      refine ⟨arr, vs, rest, ?_, h1, h2.step st⟩
      simp only [Cx.pass, if_true]; exact ho
    · obtain ⟨a', v', r', k1, k2, k3⟩ := g.blk k bk hM'
      exact ⟨a', v', r', by simp only [Cx.pass, hk, if_false]; exact k1, k2, k3.step st⟩
  · obtain ⟨hki, rfl | ⟨hk, hM1⟩⟩ := hk0 k bk h <;> obtain ⟨hki', rfl | ⟨hk', hM2⟩⟩ := hk0 k' bk' h'
    · rfl
    · exfalso
      simp only [Cx.pass, hk', if_true, if_false] at hf
      exact hki' (g.inj k' id bk' blk hM2 hM hf.symm)
    · exfalso
      simp only [Cx.pass, hk, if_true, if_false] at hf
      exact hki (g.inj k id bk blk hM1 hM hf)
    · simp only [Cx.pass, hk, hk', if_false] at hf; exact g.inj k k' bk bk' hM1 hM2 hf
/- a block that nobody writes -/
def Cx.more (c : Cx) (o : Obj) : Cx := { c with w := c.w.alloc o }
theorem more_step {B : Nat} {c : Cx} (g : Good B c) (o : Obj) : Step c (c.more o) := by
  refine ⟨rfl, rfl, rfl, by simp [Cx.more], fun b hb _ => Below.heap_alloc _ _ b hb, fun b hb ho => ho, fun _ _ => rfl, fun _ h => h, fun _ => Iff.rfl, fun b a' T' h => ⟨a', ?_, rfl⟩, Nat.le_refl _⟩
  show (c.w.alloc o).heap[b]? = _
  rw [Below.heap_alloc _ _ b (heap_lt h)]; exact h
theorem more_good {B : Nat} {c : Cx} (g : Good B c) (o : Obj) : Good B (c.more o) := by
  have hB := g.hB
  refine ⟨by simp [Cx.more]; omega, g.low, fun id blk h => ?_, g.nol, g.inj⟩
  obtain ⟨a', v', r', k1, k2, k3⟩ := g.blk id blk h
  refine ⟨a', v', r', ?_, k2, k3.step (more_step g o)⟩
  show (c.w.alloc o).heap[c.f id]? = _
  rw [Below.heap_alloc _ _ _ (heap_lt k1)]; exact k1
theorem more_stable {B : Nat} {c : Cx} (g : Good B c) (o : Obj) : (c.more o).stable c.w.heap.size := by
  refine ⟨by simp [Cx.more], fun ⟨id, blk, hM, hf⟩ => ?_, fun h => ?_⟩
  · have := g.lt hM; simp only [Cx.more] at hf; omega
  · have := g.nol _ h; have := g.hB; omega
/- a draw -/
def Cx.drew (c : Cx) : Cx := { c with w := c.w.drew }
theorem drew_step (c : Cx) : Step c c.drew := ⟨rfl, rfl, rfl, Nat.le_refl _, fun _ _ _ => rfl, fun _ _ h => h, fun _ _ => rfl, fun _ h => h, fun _ => Iff.rfl, fun b arr T h => ⟨arr, h, rfl⟩, Nat.le_succ _⟩
theorem drew_good {B : Nat} {c : Cx} (g : Good B c) : Good B c.drew :=
  ⟨g.hB, g.low, fun id blk h => by
    obtain ⟨a', v', r', k1, k2, k3⟩ := g.blk id blk h
    exact ⟨a', v', r', k1, k2, k3.step (drew_step c)⟩, g.nol, g.inj⟩

end Go.Proofs.Ytfhcciepaangiaa
