/- joint.Refute: the walk. -/
import Derived.Test.YtlgbioidkbeanaaJr
import Derived.Test.YtlgbioidkbeanaaJc
import Derived.Test.YtlgbioidkbeanaaJkR
set_option linter.unusedVariables false
set_option linter.unusedSimpArgs false
namespace Go.Proofs.Ytlgbioidkbeanaa
open Go.RowKit Go.Shelf

theorem MapIs.at_ {w w' : World} {b n : Nat} {f : Int → Int → Int → Int → Bool} (h : MapIs w b n f) (k : w'.heap[b]? = w.heap[b]?) : MapIs w' b n f := by
  obtain ⟨D, ⟨es, clock, g1, g2⟩, h2⟩ := h
  exact ⟨D, ⟨es, clock, k.trans g1, g2⟩, h2⟩
theorem Ko.rel0 {base : Nat} {no : Nat → Prop} {w w' : World} (h : Ko base no w w') (hb : w.heap.size ≤ base) {x : AV} {v : Value} (r : VRel (cxA no w) x v) (q : clean x = true) : VRel (cxA no w') x v := by
  refine r.moved (c := cxA no w) (c' := cxA no w') (fun b ⟨q1, q2, q3⟩ => ⟨Nat.lt_of_lt_of_le q1 h.size, cxA_own b, q3⟩) (fun b o vs ⟨q1, q2, q3⟩ hc j v hv => ?_) q
  have q1 : b < w.heap.size := q1
  rw [← hc j v hv]
  simp only [World.cell?]
  rw [show (cxA no w').w = w' from rfl, h.old q1 (by omega) q3]
  rfl
theorem Ko.kept {base : Nat} {no : Nat → Prop} {w w' w0 : World} (h : Ko base no w w') (hs : w0.heap.size ≤ w.heap.size) (hb : w0.heap.size ≤ base) (hn : ∀ k, no k → w0.heap.size ≤ k) (hk : Kept w0 w) : Kept w0 w' :=
  ⟨h.os.trans hk.os, h.tape.trans hk.tape, h.output.trans hk.output, Nat.le_trans hs h.size, fun k hk2 => (h.old (by omega) (by omega) (fun q => by have := hn k q; omega)).trans (hk.blk k hk2), Nat.le_trans hk.drawn h.drawn⟩
/- the row of refutations as a plain value -/
theorem out_rel {base : Nat} {no no2 : Nat → Prop} {W : World} {ov : Value} {L : List TJointRefuted} {cells : List Value} (h : W.ownsRow base 49 2 ov L.length cells) (hr : Rels (cxA (nT base no2 W) W) (encs TJointRefuted.E L) cells) (h1 : ∀ k, no k → no2 k) (h2 : ∀ k, no k → k < base) : VRel (cxA no W) (lstA TJointRefuted.E L) ov := by
  have hr2 : Rels (cxA no W) (encs TJointRefuted.E L) cells := hr.moved (c := cxA (nT base no2 W) W) (c' := cxA no W) (fun b ⟨q1, q2, q3⟩ => ⟨q1, cxA_own b, fun e => q3 (.inl (h1 b e))⟩) (fun _ _ _ _ hc => hc) (encs_clean _)
  rcases h.2 with ⟨hv0, hl0⟩ | ⟨gb, cap, cur, rfl, hbg, hg, hle, hmx, hsz, htk⟩
  · rw [hv0, List.eq_nil_of_length_eq_zero hl0]
    exact .lst0 none 0 false (fun h => by cases h) (Nat.zero_le _) (fun _ => rfl)
  · refine .lst (b := gb) (o := 0) (vs := cells) ⟨heap_lt hg, cxA_own _, fun q => by have := h2 gb q; omega⟩ hr2 (fun k u hu => ?_) hle (fun h => by cases h) hmx
    have := h.cells (g := gb) rfl k u hu
    rw [Nat.zero_add]
    rwa [show (⟨gb, 0, none⟩ : Addr).add k = ⟨gb, k, none⟩ by unfold Addr.add; split <;> simp_all] at this
set_option maxRecDepth 100000 in
set_option maxHeartbeats 8000000 in
theorem refute_calls (G : SgJ) {w : World} {n : Nat} {l : List (List TJointOption)} {s : TSep} {r : List TJointRefuted × Int} (h : g10 n l s = some r) {lv : Value} (hl : VRel (cxA (fun _ => False) w) (lstA (lstE TJointOption.E) l) lv) :
    Calls Try.prog 10 #[lv, .agg #[.int .i64 s.Lateral, .int .i64 s.Vertical]] w fun e w' => ∃ v1, e = .returned (.tuple #[v1, .int .i64 r.2]) ∧ Kept w w' ∧ VRel (cxA (fun k => k < w.heap.size) w') (lstA TJointRefuted.E r.1) v1 := by
  have hl0 := hl
  obtain ⟨la, lc, rfl⟩ := slice_lenE hl
  obtain ⟨V0, hV0⟩ : ∃ V0, w.alloc (.cells #[.int .i64 s.Lateral, .int .i64 s.Vertical] 24) = V0 := ⟨_, rfl⟩
  have hK0 : Kept w V0 := by rw [← hV0]; exact (Kept.refl _).al _
  have hs0 : V0.heap.size = w.heap.size + 1 := by rw [← hV0]; simp
  have b2 : V0.heap[w.heap.size]? = some (.cells #[.int .i64 s.Lateral, .int .i64 s.Vertical] 24 (0, 0)) := by rw [← hV0]; exact World.alloc_heap_new _ _
  have hl1 := (hK0.kno (fun _ => False)).rel hl (lstA_clean _ _)
  obtain ⟨c2, c3⟩ := both2 b2
  unfold g10 at h
  obtain ⟨e1, h1, h⟩ := Option.bind_eq_some_iff.1 h
  have nilr : ∀ W, VRel (cxA (fun k => k < w.heap.size) W) (lstA TJointRefuted.E []) (.slice none 0 0) := fun W => .lst0 none 0 _ (fun _ => rfl) (Nat.zero_le _) (fun _ => rfl)
  by_cases he1 : e1 = 0
  case neg =>
    rw [bne_iff_ne.2 he1, cond_true] at h
    cases h
    have hc := of_err hl1 (s := s) (e1 := e1) (e2 := 1) (G.S _ _ _ h1) (fun h => absurd h he1) (fun h => absurd h he1)
    rw [if_neg he1] at hc
    have hb : (e1 != 0) = true := bne_iff_ne.2 he1
    generalize l.length = L at *
    clear h1 hl hl0 hl1 he1
    go_enter Try.func10, Try.ntmps10
    go_wp2_with fail
    refine hc.mono ?_
    rintro e w1 ⟨rfl, hk1⟩
    go_wp2_with fail
    refine bodyPost_ret (results_tmp2 rfl _ _ _) rfl ?_
    exact ⟨_, rfl, (hK0.trans hk1).al _, nilr _⟩
  subst he1
  rw [show ((0 : Int) != 0) = false from rfl, cond_false] at h
  obtain ⟨e2, h2, h⟩ := Option.bind_eq_some_iff.1 h
  by_cases he2 : e2 = 0
  case neg =>
    rw [bne_iff_ne.2 he2, cond_true] at h
    cases h
    have hc := of_err hl1 (s := s) (e1 := 0) (e2 := e2) (G.S _ _ _ h1) (fun _ => G.C _ _ _ h2) (fun _ => he2)
    rw [if_pos rfl] at hc
    have hb : (e2 != 0) = true := bne_iff_ne.2 he2
    generalize l.length = L at *
    clear h1 h2 hl hl0 hl1 he2
    go_enter Try.func10, Try.ntmps10
    go_wp2_with fail
    refine hc.mono ?_
    rintro e w1 ⟨rfl, hk1⟩
    go_wp2_with fail
    refine bodyPost_ret (results_tmp2 rfl _ _ _) rfl ?_
    exact ⟨_, rfl, (hK0.trans hk1).al _, nilr _⟩
  subst he2
  rw [show ((0 : Int) != 0) = false from rfl, cond_false] at h
  cases hcf : (clAll n l s && fewL l) with
  | false => rw [hcf] at h; cases h
  | true =>
  rw [hcf, cond_true] at h
  obtain ⟨hca, hfew⟩ := Bool.and_eq_true_iff.1 hcf
  obtain ⟨hl6, hl8⟩ := few_of hfew
  obtain ⟨t, ht, h⟩ := Option.bind_eq_some_iff.1 h
  have hc := of_ok hl1 (G.F n s) (G.S _ _ _ h1) (G.C _ _ _ h2) hca hfew
  have HT := Lib.hid ht
  have HH := Lib.hid h
  have HL8 := Lib.hid hl8
  have HL0 := Lib.hid hl0
  clear h1 h2 hcf hca hfew ht h hl8 hl hl0 hl1
  go_enter Try.func10, Try.ntmps10
  go_wp2_with fail
  refine hc.mono ?_
  rintro e w1 ⟨mb, rfl, hk1, hmb, hmp⟩
  clear hV0 hc c2 c3
  obtain ⟨V2, hV2⟩ : ∃ V2, ((w1.alloc (.cells #[.slice la l.length lc, .map (some mb)] 63)).alloc (.cells #[.slice none 0 0] 31)).alloc (.cells #[.bool false] 4) = V2 := ⟨_, rfl⟩
  have hK2 : Kept w1 V2 := by rw [← hV2]; exact (((Kept.refl _).al _).al _).al _
  have hs2 : V2.heap.size = w1.heap.size + 3 := by rw [← hV2]; simp
  have hsz1 := hk1.size
  have e2 : V2.heap[w1.heap.size]? = some (.cells #[.slice la l.length lc, .map (some mb)] 63 (0, 0)) := by
    rw [← hV2]
    exact (Below.heap_alloc _ _ _ (by simp; omega)).trans ((Below.heap_alloc _ _ _ (by simp)).trans (World.alloc_heap_new _ _))
  have e3 : Bx V2 (w1.heap.size + 1) 31 (.slice none 0 0) := by
    rw [← hV2]
    have := Bx.new (w1.alloc (.cells #[.slice la l.length lc, .map (some mb)] 63)) 31 (.slice none 0 0)
    rw [World.size_alloc] at this
    exact this.alloc _
  have e4 : Bx V2 (w1.heap.size + 1 + 1) 4 (.bool false) := by
    rw [← hV2]
    have := Bx.new ((w1.alloc (.cells #[.slice la l.length lc, .map (some mb)] 63)).alloc (.cells #[.slice none 0 0] 31)) 4 (.bool false)
    rwa [World.size_alloc, World.size_alloc] at this
  have y1 := e4.cell
  have y2 := e4.frozen
  obtain ⟨V3, hV3⟩ : ∃ V3, V2.setCell ⟨w1.heap.size + 1 + 1, 0, none⟩ (.bool false) = V3 := ⟨_, rfl⟩
  have hK3 : Kept w1 V3 := by rw [← hV3]; exact hK2.set _ (by show w1.heap.size ≤ w1.heap.size + 1 + 1; omega) _
  have hs3 : V3.heap.size = w1.heap.size + 3 := by rw [← hV3]; simpa using hs2
  have hKw : Kept w V3 := (hK0.trans hk1).trans hK3
  have d2 : V3.heap[w1.heap.size]? = some (.cells #[.slice la l.length lc, .map (some mb)] 63 (0, 0)) := by
    rw [← hV3, Below.heap_setCell _ _ _ _ (by show w1.heap.size ≠ w1.heap.size + 1 + 1; omega)]
    exact e2
  have d3 : Bx V3 (w1.heap.size + 1) 31 (.slice none 0 0) := by rw [← hV3]; exact e3.other (by omega) _
  have d4 : Bx V3 (w1.heap.size + 1 + 1) 4 (.bool false) := by rw [← hV3]; exact e4.set _
  clear e2 e3 e4 hK2 hs2
  obtain ⟨no, hno⟩ : ∃ no : Nat → Prop, ∀ k, no k ↔ k = w1.heap.size + 1 + 1 ∨ k = w1.heap.size + 1 := ⟨_, fun _ => Iff.rfl⟩
  obtain ⟨no2, hno2⟩ : ∃ no2 : Nat → Prop, ∀ k, no2 k ↔ k < w.heap.size ∨ no k := ⟨_, fun _ => Iff.rfl⟩
  have h12 : ∀ k, no k → no2 k := fun k q => (hno2 k).2 (.inr q)
  have hn3 : ∀ b, no2 b → b < V3.heap.size := fun b hb => by
    rcases (hno2 b).1 hb with q | q
    · have := hKw.size; omega
    · have := (hno b).1 q; omega
  have hlV : VRel (cxA no V3) (lstA (lstE TJointOption.E) l) (.slice la l.length lc) := (hKw.kno no).rel (rel_no HL0.out (lstA_clean _ _) (fun b hb q => by have := (hno b).1 q; have := hK0.size; omega)) (lstA_clean _ _)
  obtain ⟨nm, f, hMp, hf⟩ := hmp.end_
  have hM3 := hMp.kept hK3
  have hmlt := hMp.lt
  have nmb : ¬ no mb := fun q => by have := (hno mb).1 q; omega
  have hB3 : JR (w1.heap.size + 1 + 1) (w1.heap.size + 1) V3.heap.size no2 (false, ([] : List TJointRefuted)) V3 := ⟨d4, _, [], d3, World.ownsRow_nil _ _ _ _, .nil⟩
  have hwalk := walkR_calls hl6 HL8.out (cl := clF n l s) (fr := fun s _ => some (true, s.2)) (rf := rfB) (no := no2) (no1 := no) (base := V3.heap.size) (J := fun q W => JR (w1.heap.size + 1 + 1) (w1.heap.size + 1) V3.heap.size no2 q W ∧ Ko V3.heap.size no V3 W)
    (fun q A B ⟨j1, j4⟩ hk => ⟨j1.kept hk, j4.trans (hk.ko _ no)⟩)
    (lv := .slice la l.length lc) (mb := mb) (n := nm) (f := f) hf (fun q W ⟨j1, j4⟩ => ⟨hM3.at_ (j4.old (by omega) (by omega) nmb), j4.rel0 (Nat.le_refl _) hlV (lstA_clean _ _)⟩) (ca := #[.pointer (some ⟨w1.heap.size + 1 + 1, 0, none⟩)]) (cb := #[.pointer (some ⟨w1.heap.size + 1, 0, none⟩)])
    (fun q r c v W hco hcl hn hr ⟨j1, j4⟩ hv => by
      cases hv
      exact (refute1_in h12 hno (by omega) (by omega) j1).mono fun e w' ⟨p1, p2, p3⟩ => ⟨p1, ⟨p2, j4.trans p3⟩, p3.mono h12⟩)
    (fun q r c i v W hco hn hr ⟨j1, j4⟩ hv => (refute2_in h12 hno (by omega) (by omega) (by omega) hn j4.size (by have := hco.len; omega) hr j1 hv).mono fun e w' ⟨p1, p2, p3⟩ => ⟨p1, ⟨p2, j4.trans p3⟩, p3.mono h12⟩)
    l.length [] (false, ([] : List TJointRefuted)) t (.slice none 0 0) V3 (by simp) ⟨by simp, fun j x hx => by simp at hx⟩ hn3 (.lst0 none 0 _ (fun _ => rfl) (Nat.zero_le _) (fun _ => rfl)) ⟨hB3, Ko.refl _ _ _⟩ HT.out
  obtain ⟨x1, x2⟩ := both2 d2
  have KW := Lib.hid hKw
  clear hB3 hM3 hlV hMp hmp hf HT HL0 HL8 d3 d4 b2 hn3
  generalize l.length = L at *
  go_wp2_with fail
  refine hwalk.mono ?_
  rintro e w4 ⟨rfl, ⟨⟨hi1, ov, cells, ho1, ho2, ho3⟩, hkn4⟩, -⟩
  have hK4 : Kept w w4 := hkn4.kept KW.out.size KW.out.size (fun k q => by have := (hno k).1 q; have := hK0.size; omega) KW.out
  have c1 := hi1.cell
  have c2 := ho1.cell
  have hres := out_rel (no := fun k => k < w.heap.size) ho2 ho3 (fun k q => (hno2 k).2 (.inl q)) (fun k q => by have := KW.out.size; omega)
  obtain ⟨oa, oc, rfl⟩ := own_slice ho2
  have hh := HH.out
  clear HH hwalk x1 x2 hV3 ho2 ho3
  obtain ⟨ti, tl⟩ := t
  replace hh : (bif ti then some (([] : List TJointRefuted), (11 : Int)) else some (tl, 0)) = some r := hh
  cases ti with
  | true =>
    cases hh
    go_wp2_with fail
    refine bodyPost_ret (results_tmp2 rfl _ _ _) rfl ?_
    exact ⟨_, rfl, hK4, nilr _⟩
  | false =>
    cases hh
    go_wp2_with fail
    refine bodyPost_ret (results_tmp2 rfl _ _ _) rfl ?_
    exact ⟨_, rfl, hK4, hres⟩
end Go.Proofs.Ytlgbioidkbeanaa
