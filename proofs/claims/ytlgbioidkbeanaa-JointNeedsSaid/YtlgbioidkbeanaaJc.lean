/- joint.Best: the walk. -/
import Derived.Test.YtlgbioidkbeanaaJb
import Derived.Test.YtlgbioidkbeanaaJkB
set_option linter.unusedVariables false
set_option linter.unusedSimpArgs false
namespace Go.Proofs.Ytlgbioidkbeanaa
open Go.RowKit Go.Shelf

theorem best2_in (v x : Value) (w : World) : Calls Try.prog 27 #[v, x] w fun e w' => e = .returned (.tuple #[]) ∧ w' = w := by
  go_enter Try.func27, Try.ntmps27
  go_wp2_with fail
  go_end0
  exact ⟨rfl, rfl⟩
structure SgJ : Prop where
  F : ∀ (n : Nat) (s : TSep) (x y : List TTubeNode) t, g42 n x y s = some t → Says Try.prog KK.gl 42 [lstA TTubeNode.E x, lstA TTubeNode.E y, AV.agg [intA s.Lateral, intA s.Vertical]] (.tup [intA t.1, intA t.2])
  S : ∀ (n : Nat) (s : TSep) t, g36 n s = some t → Says Try.prog KK.gl 36 [AV.agg [intA s.Lateral, intA s.Vertical]] (intA t)
  C : ∀ (n : Nat) (l : List (List TJointOption)) t, g23 n l = some t → Says Try.prog KK.gl 23 [lstA (lstE TJointOption.E) l] (intA t)
theorem Mp.end_ {l : List (List TJointOption)} {cl : Nat → Nat → Nat → Nat → Bool} {mb : Nat} {W : World} (h : Mp l cl mb l.length 0 0 0 W) : ∃ n f, MapIs W mb n f ∧ ∀ i k m q : Nat, i < k → k < l.length → m < (l.getD i []).length → q < (l.getD k []).length → f (i : Int) (k : Int) (m : Int) (q : Int) = cl i k m q := by
  obtain ⟨n, f, h1, h2, h3⟩ := h
  exact ⟨n, f, h2, fun i k m q a b c d => h3.at_ i k m q a b c d (.inl b)⟩
set_option maxRecDepth 100000 in
set_option maxHeartbeats 8000000 in
theorem best_calls (G : SgJ) {w : World} {n : Nat} {l : List (List TJointOption)} {s : TSep} {r : List Int × Int × Int} (h : g9 n l s = some r) {lv : Value} (hl : VRel (cxA (fun _ => False) w) (lstA (lstE TJointOption.E) l) lv) :
    Calls Try.prog 9 #[lv, .agg #[.int .i64 s.Lateral, .int .i64 s.Vertical]] w fun e w' => ∃ v1, e = .returned (.tuple #[v1, .int .i64 r.2.1, .int .i64 r.2.2]) ∧ Kept w w' ∧ VRel (cxA (fun k => k < w.heap.size) w') (lstA intE r.1) v1 := by
  have hl0 := hl
  obtain ⟨la, lc, rfl⟩ := slice_lenE hl
  obtain ⟨V0, hV0⟩ : ∃ V0, (w.alloc (.cells #[.slice la l.length lc] 22)).alloc (.cells #[.int .i64 s.Lateral, .int .i64 s.Vertical] 24) = V0 := ⟨_, rfl⟩
  have hK0 : Kept w V0 := by rw [← hV0]; exact ((Kept.refl _).al _).al _
  have hs0 : V0.heap.size = w.heap.size + 2 := by rw [← hV0]; simp
  have b1 : Bx V0 w.heap.size 22 (.slice la l.length lc) := by rw [← hV0]; exact (Bx.new _ _ _).alloc _
  have b2 : V0.heap[w.heap.size + 1]? = some (.cells #[.int .i64 s.Lateral, .int .i64 s.Vertical] 24 (0, 0)) := by
    rw [← hV0]
    have := World.alloc_heap_new (w.alloc (.cells #[.slice la l.length lc] 22)) (.cells #[.int .i64 s.Lateral, .int .i64 s.Vertical] 24)
    rwa [World.size_alloc] at this
  have hl1 := (hK0.kno (fun _ => False)).rel hl (lstA_clean _ _)
  have c1 := b1.cell
  obtain ⟨c2, c3⟩ := both2 b2
  unfold g9 at h
  obtain ⟨e1, h1, h⟩ := Option.bind_eq_some_iff.1 h
  have nilr : ∀ W, VRel (cxA (fun k => k < w.heap.size) W) (lstA intE []) (.slice none 0 0) := fun W => .lst0 none 0 _ (fun _ => rfl) (Nat.zero_le _) (fun _ => rfl)
  by_cases he1 : e1 = 0
  case neg =>
    rw [bne_iff_ne.2 he1, cond_true] at h
    cases h
    have hc := of_err hl1 (s := s) (e1 := e1) (e2 := 1) (G.S _ _ _ h1) (fun h => absurd h he1) (fun h => absurd h he1)
    rw [if_neg he1] at hc
    have hb : (e1 != 0) = true := bne_iff_ne.2 he1
    generalize l.length = L at *
    clear h1 hl hl0 hl1 he1
    go_enter Try.func9, Try.ntmps9
    go_wp2_with fail
    refine hc.mono ?_
    rintro e w1 ⟨rfl, hk1⟩
    go_wp2_with fail
    refine bodyPost_ret (results_tmp3 rfl _ _ _) rfl ?_
    exact ⟨_, rfl, (hK0.trans hk1).al _, nilr _⟩
  subst he1
  rw [show ((0 : Int) != 0) = false from rfl, cond_false] at h
  obtain ⟨e2, h2, h⟩ := Option.bind_eq_some_iff.1 h
  by_cases he2 : e2 = 0
  case neg =>
    rw [bne_iff_ne.2 he2, cond_true] at h
    cases h
    have hc := of_err hl1 (s := s) (e1 := 0) (e2 := e2) (G.S _ _ _ h1) (fun _ => G.C _ _ _ h2) (fun _ => he2)
    rw [if_pos rfl] at hc
    have hb : (e2 != 0) = true := bne_iff_ne.2 he2
    generalize l.length = L at *
    clear h1 h2 hl hl0 hl1 he2
    go_enter Try.func9, Try.ntmps9
    go_wp2_with fail
    refine hc.mono ?_
    rintro e w1 ⟨rfl, hk1⟩
    go_wp2_with fail
    refine bodyPost_ret (results_tmp3 rfl _ _ _) rfl ?_
    exact ⟨_, rfl, (hK0.trans hk1).al _, nilr _⟩
  subst he2
  rw [show ((0 : Int) != 0) = false from rfl, cond_false] at h
  cases hcf : (clAll n l s && fewL l) with
  | false => rw [hcf] at h; cases h
  | true =>
  rw [hcf, cond_true] at h
  obtain ⟨hca, hfew⟩ := Bool.and_eq_true_iff.1 hcf
  obtain ⟨hl6, hl8⟩ := few_of hfew
  obtain ⟨t, ht, h⟩ := Option.bind_eq_some_iff.1 h
  have hc := of_ok hl1 (G.F n s) (G.S _ _ _ h1) (G.C _ _ _ h2) hca hfew
  have HT := Lib.hid ht
  have HH := Lib.hid h
  have HL8 := Lib.hid hl8
  have HL0 := Lib.hid hl0
  clear h1 h2 hcf hca hfew ht h hl8 hl hl0 hl1
  go_enter Try.func9, Try.ntmps9
  go_wp2_with fail
  refine hc.mono ?_
  rintro e w1 ⟨mb, rfl, hk1, hmb, hmp⟩
  clear hV0 hc c1 c2 c3
  obtain ⟨V3, hV3⟩ : ∃ V3, ((w1.alloc (.cells #[.slice la l.length lc, .map (some mb)] 63)).alloc (.cells #[.slice none 0 0] 27)).alloc (.cells #[.int .i64 (-1)] 3) = V3 := ⟨_, rfl⟩
  have hK3 : Kept w1 V3 := by rw [← hV3]; exact (((Kept.refl _).al _).al _).al _
  have hs3 : V3.heap.size = w1.heap.size + 3 := by rw [← hV3]; simp
  have hKw : Kept w V3 := (hK0.trans hk1).trans hK3
  have hsz1 := hk1.size
  have d1 := (b1.kept hk1).kept hK3
  have d2 : V3.heap[w1.heap.size]? = some (.cells #[.slice la l.length lc, .map (some mb)] 63 (0, 0)) := by
    rw [← hV3]
    exact (Below.heap_alloc _ _ _ (by simp; omega)).trans ((Below.heap_alloc _ _ _ (by simp)).trans (World.alloc_heap_new _ _))
  have d3 : Bx V3 (w1.heap.size + 1) 27 (.slice none 0 0) := by
    rw [← hV3]
    have := Bx.new (w1.alloc (.cells #[.slice la l.length lc, .map (some mb)] 63)) 27 (.slice none 0 0)
    rw [World.size_alloc] at this
    exact this.alloc _
  have d4 : Bx V3 (w1.heap.size + 1 + 1) 3 (.int .i64 (-1)) := by
    rw [← hV3]
    have := Bx.new ((w1.alloc (.cells #[.slice la l.length lc, .map (some mb)] 63)).alloc (.cells #[.slice none 0 0] 27)) 3 (.int .i64 (-1))
    rwa [World.size_alloc, World.size_alloc] at this
  obtain ⟨no, hno⟩ : ∃ no : Nat → Prop, ∀ k, no k ↔ k = w1.heap.size + 1 ∨ k = w1.heap.size + 1 + 1 := ⟨_, fun _ => Iff.rfl⟩
  obtain ⟨no2, hno2⟩ : ∃ no2 : Nat → Prop, ∀ k, no2 k ↔ k < w.heap.size ∨ no k := ⟨_, fun _ => Iff.rfl⟩
  have h12 : ∀ k, no k → no2 k := fun k q => (hno2 k).2 (.inr q)
  have hn3 : ∀ b, no2 b → b < V3.heap.size := fun b hb => by
    rcases (hno2 b).1 hb with q | q
    · have := hKw.size; omega
    · have := (hno b).1 q; omega
  have hlV : VRel (cxA no V3) (lstA (lstE TJointOption.E) l) (.slice la l.length lc) := (hKw.kno no).rel (rel_no HL0.out (lstA_clean _ _) (fun b hb q => by have := (hno b).1 q; have := hK0.size; omega)) (lstA_clean _ _)
  obtain ⟨nm, f, hMp, hf⟩ := hmp.end_
  have hM3 := hMp.kept hK3
  have hmlt := hMp.lt
  have nmb : ¬ no mb := fun q => by have := (hno mb).1 q; omega
  have hB3 : JB w.heap.size (w1.heap.size + 1) (w1.heap.size + 1 + 1) no no2 l (([] : List Int), (-1 : Int)) V3 :=
    ⟨fun q => by have := (hno _).1 q; omega, ⟨_, d1, hlV⟩, ⟨_, d3, .lst0 none 0 _ (fun _ => rfl) (Nat.zero_le _) (fun _ => rfl)⟩, d4⟩
  have hwalk := walkB_calls hl6 HL8.out (cl := clF n l s) (fr := frB l) (rf := fun s _ _ => some s) (no := no2) (no1 := no) (J := fun q W => JB w.heap.size (w1.heap.size + 1) (w1.heap.size + 1 + 1) no no2 l q W ∧ MapIs W mb nm f ∧ VRel (cxA no W) (lstA (lstE TJointOption.E) l) (.slice la l.length lc) ∧ Kno no V3 W)
    (fun q A B ⟨j1, j2, j3, j4⟩ hk => ⟨j1.kept hk, j2.kept hk, (hk.kno no).rel j3 (lstA_clean _ _), j4.trans (hk.kno no)⟩)
    (lv := .slice la l.length lc) (mb := mb) (n := nm) (f := f) hf (fun q W ⟨j1, j2, j3, j4⟩ => ⟨j2, j3⟩) (ca := #[.pointer (some ⟨w.heap.size, 0, none⟩), .pointer (some ⟨w1.heap.size + 1 + 1, 0, none⟩), .pointer (some ⟨w1.heap.size + 1, 0, none⟩)]) (cb := #[])
    (fun q r c v W hco hcl hn hr ⟨j1, j2, j3, j4⟩ hv => (best1_in h12 hno (by omega) hl6 hcl hr j1 hv).mono fun e w' ⟨p1, p2, p3⟩ => ⟨p1, ⟨p2, j2.kno p3 nmb, p3.rel j3 (lstA_clean _ _), j4.trans p3⟩, p3.mono h12⟩)
    (fun q r c i v W hco hn hr hj hv => (best2_in v (.int .i64 i) W).mono fun e w' ⟨p1, p2⟩ => by
      subst p2
      cases hv
      exact ⟨⟨_, p1⟩, hj, Kno.refl _ _⟩)
    l.length [] (([] : List Int), (-1 : Int)) t (.slice none 0 0) V3 (by simp) ⟨by simp, fun j x hx => by simp at hx⟩ hn3 (.lst0 none 0 _ (fun _ => rfl) (Nat.zero_le _) (fun _ => rfl)) ⟨hB3, hM3, hlV, Kno.refl _ _⟩ HT.out
  obtain ⟨x1, x2⟩ := both2 d2
  have KW := Lib.hid hKw
  clear hB3 hM3 hlV hMp hmp hf HT HL0 HL8 d1 d3 d4 b1 b2 hn3
  generalize l.length = L at *
  go_wp2_with fail
  refine hwalk.mono ?_
  rintro e w4 ⟨rfl, ⟨⟨-, -, ⟨bv, hb1, hb2⟩, hs1⟩, -, -, hkn4⟩, -⟩
  have hK4 : Kept w w4 := hkn4.kept KW.out.size (fun k q => by have := (hno k).1 q; have := hK0.size; omega) KW.out
  have c1 := hb1.cell
  have c2 := hs1.cell
  have hres := rel_no (no' := fun k => k < w.heap.size) hb2 (lstA_clean _ _) (fun b _ q => (hno2 b).2 (.inl q))
  have hh := HH.out
  clear HH hwalk hb2 x1 x2 hV3
  obtain ⟨tb, ts⟩ := t
  by_cases hts : ts < 0
  · have hd : decide (ts < 0) = true := decide_eq_true hts
    replace hh : (bif decide (ts < 0) then some (([] : List Int), (0 : Int), (8 : Int)) else some (tb, ts, 0)) = some r := hh
    rw [hd, cond_true] at hh
    cases hh
    go_wp2_with fail
    refine bodyPost_ret (results_tmp3 rfl _ _ _) rfl ?_
    exact ⟨_, rfl, hK4, nilr _⟩
  · have hd : decide (ts < 0) = false := decide_eq_false hts
    replace hh : (bif decide (ts < 0) then some (([] : List Int), (0 : Int), (8 : Int)) else some (tb, ts, 0)) = some r := hh
    rw [hd, cond_false] at hh
    cases hh
    go_wp2_with fail
    go_quiet (fail)
    go_wp2_with fail
    refine bodyPost_ret (results_tmp3 rfl _ _ _) rfl ?_
    exact ⟨_, rfl, hK4.drewN _, (((Kept.refl w4).drewN _).kno _).rel hres (lstA_clean _ _)⟩
end Go.Proofs.Ytlgbioidkbeanaa
