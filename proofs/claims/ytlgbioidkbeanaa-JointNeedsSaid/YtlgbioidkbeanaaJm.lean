/- A map from four numbers to a bool, as a function. -/
import Derived.Test.YtlgbioidkbeanaaKn
import Derived.Test.YtlgbioidkbeanaaX1G
import Derived.Maps.OwnIn
import Derived.Maps.Views
import Derived.WideKeyArr
import Derived.WideKeyPair
set_option linter.unusedVariables false
set_option linter.unusedSimpArgs false
namespace Go.Proofs.Ytlgbioidkbeanaa
open Go.RowKit Go.Shelf Go.WideMaps
open Go.Maps (Keyed)

theorem jArr : ArrKey Try.prog 95 3 4 := ⟨Try.underlying95, by kernel_rfl, by kernel_rfl, by kernel_rfl⟩
theorem jKeyed : Keyed Try.prog 95 := Keyed.of_law jArr.law
def quad (i k m q : Int) : Value := .agg #[.int .i64 i, .int .i64 k, .int .i64 m, .int .i64 q]
def quadL (i k m q : Int) : Lit := .string (keyBytes [.int .i64 i, .int .i64 k, .int .i64 m, .int .i64 q])
def Wf (z : Int) : Prop := (Lit.int .i64 z).wf = true
theorem wf_of {z : Int} (h : -9223372036854775808 ≤ z ∧ z ≤ 9223372036854775807) : Wf z := by
  unfold Wf Lit.wf
  have h1 : IntKind.i64.min = -9223372036854775808 := by decide
  have h2 : IntKind.i64.max = 9223372036854775807 := by decide
  simp [h1, h2]
  omega
theorem keyOf_quad {i k m q : Int} (h1 : Wf i) (h2 : Wf k) (h3 : Wf m) (h4 : Wf q) : keyOf Try.prog 95 (quad i k m q) = some (quadL i k m q) := by
  have hsz : ∃ m, Try.prog.types.size = m + 1 := ⟨Try.prog.types.size - 1, by have : 0 < Try.prog.types.size := of_decide_eq_true (by kernel_rfl); omega⟩
  have hkt := jArr.keyType hsz
  obtain ⟨m', hm⟩ := hsz
  unfold Wf at h1 h2 h3 h4
  unfold keyOf quad quadL
  simp only [jArr.hu]
  rw [if_pos (by simp [hkt, Value.formed, jArr.hu, jArr.size]), hm]
  unfold Program.keyLits
  simp only [jArr.hu, Value.cells]
  rw [if_pos (by rw [jArr.size]; rfl), show List.range 4 = [0, 1, 2, 3] from rfl, List.mapM_cons, List.mapM_cons, List.mapM_cons, List.mapM_cons, List.mapM_nil]
  simp [jArr.one, Program.keyLits, Try.underlying3, h1, h2, h3, h4]
theorem quad_inj {i k m q i' k' m' q' : Int} (h1 : Wf i) (h2 : Wf k) (h3 : Wf m) (h4 : Wf q) (h1' : Wf i') (h2' : Wf k') (h3' : Wf m') (h4' : Wf q') (h : quadL i k m q = quadL i' k' m' q') : i = i' ∧ k = k' ∧ m = m' ∧ q = q' := by
  have e := jKeyed.inj (keyOf_quad h1 h2 h3 h4) (by rw [h]; exact keyOf_quad h1' h2' h3' h4')
  unfold quad at e
  simpa using e
def MapIs (w : World) (b n : Nat) (f : Int → Int → Int → Int → Bool) : Prop := ∃ D : DataW Unit, w.ownsMap Try.prog 95 (plainElem Try.prog 4) b n D ∧ ∀ i k m q, Wf i → Wf k → Wf m → Wf q → D.atKey (quadL i k m q) (.lit (.bool false)) = .lit (.bool (f i k m q))
theorem MapIs.made (w : World) : MapIs (w.alloc (.map #[] 0)) w.heap.size 0 (fun _ _ _ _ => false) := ⟨_, World.ownsMap_made _ _ _ _, fun _ _ _ _ _ _ _ _ => rfl⟩
theorem MapIs.lt {w : World} {b n : Nat} {f : Int → Int → Int → Int → Bool} (h : MapIs w b n f) : b < w.heap.size := let ⟨_, h, _⟩ := h; h.lt
theorem MapIs.kno {w w' : World} {b n : Nat} {f : Int → Int → Int → Int → Bool} {no : Nat → Prop} (h : MapIs w b n f) (k : Kno no w w') (hb : ¬ no b) : MapIs w' b n f := by
  obtain ⟨D, h1, h2⟩ := h
  have hlt := h1.lt
  obtain ⟨es, clock, g1, g2⟩ := h1
  exact ⟨D, ⟨es, clock, (k.blk _ hlt hb).trans g1, g2⟩, h2⟩
theorem MapIs.kept {w w' : World} {b n : Nat} {f : Int → Int → Int → Int → Bool} (h : MapIs w b n f) (k : Kept w w') : MapIs w' b n f := h.kno (k.kno fun _ => False) (fun h => h)
set_option maxRecDepth 100000 in
theorem plain_bool_inv {v : Value} {x : Bool} {ps : List MemPlace} (h : plainElem (H := Unit) Try.prog 4 v = some (.lit (.bool x), ps)) : v = .bool x := by
  unfold plainElem at h
  rw [Try.underlying4] at h
  cases v <;> simp at h
  obtain ⟨rfl, -⟩ := h
  rfl
set_option maxRecDepth 100000 in
theorem MapIs.look {w : World} {b n : Nat} {f : Int → Int → Int → Int → Bool} (h : MapIs w b n f) {i k m q : Int} (h1 : Wf i) (h2 : Wf k) (h3 : Wf m) (h4 : Wf q) : (Instr.lookup 61 (.map (some b)) (quad i k m q) false).run Try.prog w = .ok (.bool (f i k m q)) w := by
  obtain ⟨D, g1, g2⟩ := h
  obtain ⟨v, ps, hrun, hv⟩ := g1.lookup jKeyed Try.underlying61 (z := .bool false) (by kernel_rfl) (zd := .lit (.bool false)) (zp := []) (plainElem_bool Try.underlying4 false) (keyOf_quad h1 h2 h3 h4)
  rw [g2 i k m q h1 h2 h3 h4] at hv
  rw [hrun, plain_bool_inv hv]
set_option maxRecDepth 100000 in
theorem MapIs.put {w : World} {b n : Nat} {f : Int → Int → Int → Int → Bool} (h : MapIs w b n f) (hn : n < maxLen) {i k m q : Int} (h1 : Wf i) (h2 : Wf k) (h3 : Wf m) (h4 : Wf q) (v : Bool) :
    ∃ w', (Instr.mapUpdate 61 (.map (some b)) (quad i k m q) (.bool v)).run Try.prog w = .ok () w' ∧ MapIs w' b (n + 1) (fun i' k' m' q' => if i' = i ∧ k' = k ∧ m' = m ∧ q' = q then v else f i' k' m' q') ∧ Kno (fun x => x = b) w w' := by
  obtain ⟨D, g1, g2⟩ := h
  have hmap : Go.Maps.IsMap D := by obtain ⟨es, clock, -, -, -, rfl⟩ := g1; exact ⟨_, rfl⟩
  have hkey := keyOf_quad h1 h2 h3 h4
  obtain ⟨w', hrun, r1, r2⟩ := g1.update jKeyed Try.underlying61 hn hkey (plainElem_bool Try.underlying4 v)
  refine ⟨w', hrun, ⟨_, r1, fun i' k' m' q' h1' h2' h3' h4' => ?_⟩, ⟨r2.os, r2.tape, r2.output, r2.size, fun x hx hb => r2.block x hx (fun e => hb (by cases e; rfl)), dr_le (run_drawn _ _ _ _ _ hrun)⟩⟩
  show _ = DataW.lit (Lit.bool (if i' = i ∧ k' = k ∧ m' = m ∧ q' = q then v else f i' k' m' q'))
  by_cases e : i' = i ∧ k' = k ∧ m' = m ∧ q' = q
  · obtain ⟨rfl, rfl, rfl, rfl⟩ := e
    rw [if_pos ⟨rfl, rfl, rfl, rfl⟩]
    exact Go.Maps.atKey_put_same hmap (jKeyed.key hkey) _ _
  · rw [if_neg e]
    have hne : quadL i' k' m' q' ≠ quadL i k m q := fun h => e (quad_inj h1' h2' h3' h4' h1 h2 h3 h4 h)
    rw [Go.Maps.atKey_put_other hne]
    exact g2 i' k' m' q' h1' h2' h3' h4'
end Go.Proofs.Ytlgbioidkbeanaa
