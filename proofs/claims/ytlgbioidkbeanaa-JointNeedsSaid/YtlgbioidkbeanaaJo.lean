/- joint.of: the task: the options, and which of them clash. -/
import Derived.Test.YtlgbioidkbeanaaJk0
set_option linter.unusedVariables false
set_option linter.unusedSimpArgs false
namespace Go.Proofs.Ytlgbioidkbeanaa
open Go.RowKit Go.Shelf

theorem ok4 (w0 : World) : ∀ (no : Nat → Prop) w, GlobOk KK.gl (cxA no w) := fun no w g cs h => by cases h
theorem says_kK {f : FuncId} {args : List AV} {v : AV} (h : Says Try.prog KK.gl f args v) {w : World} {vals : List Value} (hr : Rels (cxA (fun _ => False) w) args vals) (W : World) (hk : Kept w W) :
    Calls Try.prog f vals.toArray W (fun e w' => ∃ v', e = .returned v' ∧ Kept W w' ∧ VRel (cxA (fun _ => False) w') v v') :=
  callsIn_wide.1 (says_kn h (fun b hb => hb.elim) (fun g cs h => by cases h) ((hk.kno _).rels hr h.1) 0)
/- all that lies ahead of (k, i, m, q) is in the map -/
def lensJ (l : List (List TJointOption)) (k : Nat) : Nat := (l.getD k []).length
structure Pg (l : List (List TJointOption)) (cl : Nat → Nat → Nat → Nat → Bool) (f : Int → Int → Int → Int → Bool) (k i m q : Nat) : Prop where
  at_ : ∀ i' k' m' q' : Nat, i' < k' → k' < l.length → m' < lensJ l i' → q' < lensJ l k' → (k' < k ∨ k' = k ∧ (i' < i ∨ i' = i ∧ (m' < m ∨ m' = m ∧ q' < q))) → f i' k' m' q' = cl i' k' m' q'
theorem Pg.start {l : List (List TJointOption)} {cl : Nat → Nat → Nat → Nat → Bool} {f : Int → Int → Int → Int → Bool} : Pg l cl f 0 0 0 0 := ⟨fun i' k' m' q' _ _ _ _ h => by omega⟩
theorem Pg.upM {l : List (List TJointOption)} {cl : Nat → Nat → Nat → Nat → Bool} {f : Int → Int → Int → Int → Bool} {k i m : Nat} (h : Pg l cl f k i m (lensJ l k)) : Pg l cl f k i (m + 1) 0 := ⟨fun i' k' m' q' h1 h2 h3 h4 h5 => h.at_ i' k' m' q' h1 h2 h3 h4 (by
  rcases h5 with h5 | ⟨rfl, h5⟩
  · exact .inl h5
  · omega)⟩
theorem Pg.upI {l : List (List TJointOption)} {cl : Nat → Nat → Nat → Nat → Bool} {f : Int → Int → Int → Int → Bool} {k i : Nat} (h : Pg l cl f k i (lensJ l i) 0) : Pg l cl f k (i + 1) 0 0 := ⟨fun i' k' m' q' h1 h2 h3 h4 h5 => h.at_ i' k' m' q' h1 h2 h3 h4 (by
  rcases h5 with h5 | ⟨rfl, h5⟩
  · exact .inl h5
  · rcases Nat.lt_or_ge i' i with q | q
    · exact .inr ⟨rfl, .inl q⟩
    · obtain rfl : i' = i := by omega
      exact .inr ⟨rfl, .inr ⟨rfl, .inl h3⟩⟩)⟩
theorem Pg.upK {l : List (List TJointOption)} {cl : Nat → Nat → Nat → Nat → Bool} {f : Int → Int → Int → Int → Bool} {k : Nat} (h : Pg l cl f k k 0 0) : Pg l cl f (k + 1) 0 0 0 := ⟨fun i' k' m' q' h1 h2 h3 h4 h5 => h.at_ i' k' m' q' h1 h2 h3 h4 (by omega)⟩
theorem Pg.put {l : List (List TJointOption)} {cl : Nat → Nat → Nat → Nat → Bool} {f : Int → Int → Int → Int → Bool} {k i m q : Nat} (h : Pg l cl f k i m q) {v : Bool} (hv : v = cl i k m q) : Pg l cl (fun i' k' m' q' => if i' = (i : Int) ∧ k' = (k : Int) ∧ m' = (m : Int) ∧ q' = (q : Int) then v else f i' k' m' q') k i m (q + 1) := ⟨fun i' k' m' q' h1 h2 h3 h4 h5 => by
  by_cases e : (i' : Int) = i ∧ (k' : Int) = k ∧ (m' : Int) = m ∧ (q' : Int) = q
  · simp only [if_pos e]
    obtain ⟨e1, e2, e3, e4⟩ := e
    obtain rfl : i' = i := by omega
    obtain rfl : k' = k := by omega
    obtain rfl : m' = m := by omega
    obtain rfl : q' = q := by omega
    exact hv
  · simp only [if_neg e]
    exact h.at_ i' k' m' q' h1 h2 h3 h4 (by omega)⟩
def Mp (l : List (List TJointOption)) (cl : Nat → Nat → Nat → Nat → Bool) (mb : Nat) (k i m q : Nat) (W : World) : Prop := ∃ (n : Nat) (f : Int → Int → Int → Int → Bool), n ≤ k * 400 + i * 64 + m * 8 + q ∧ MapIs W mb n f ∧ Pg l cl f k i m q
theorem Mp.kept {l : List (List TJointOption)} {cl : Nat → Nat → Nat → Nat → Bool} {mb k i m q : Nat} {W W' : World} (h : Mp l cl mb k i m q W) (hk : Kept W W') : Mp l cl mb k i m q W' := by
  obtain ⟨n, f, h1, h2, h3⟩ := h
  exact ⟨n, f, h1, h2.kept hk, h3⟩
theorem Mp.put {l : List (List TJointOption)} {cl : Nat → Nat → Nat → Nat → Bool} {mb k i m q : Nat} {W : World} (h : Mp l cl mb k i m q W) (h1 : k ≤ 6) (h2 : i ≤ 6) (h3 : m ≤ 8) (h4 : q ≤ 8) {v : Bool} (hv : v = cl i k m q) :
    ∃ w', (Instr.mapUpdate 61 (.map (some mb)) (.agg #[.int .i64 (i : Int), .int .i64 (k : Int), .int .i64 (m : Int), .int .i64 (q : Int)]) (.bool v)).run Try.prog W = .ok () w' ∧ Mp l cl mb k i m (q + 1) w' ∧ Kno (fun x => x = mb) W w' := by
  obtain ⟨n, f, g1, g2, g3⟩ := h
  obtain ⟨w', q1, q2, q3⟩ := g2.put (by unfold maxLen; omega) (wf_of (z := (i : Int)) (by omega)) (wf_of (z := (k : Int)) (by omega)) (wf_of (z := (m : Int)) (by omega)) (wf_of (z := (q : Int)) (by omega)) v
  exact ⟨w', q1, ⟨n + 1, _, by omega, q2, g3.put hv⟩, q3⟩
set_option maxRecDepth 100000 in
theorem Mp.upM {l : List (List TJointOption)} {cl : Nat → Nat → Nat → Nat → Bool} {mb k i m : Nat} {W : World} (h : Mp l cl mb k i m (lensJ l k) W) (h8 : lensJ l k ≤ 8) : Mp l cl mb k i (m + 1) 0 W := by
  obtain ⟨n, f, h1, h2, h3⟩ := h
  have hn : n ≤ k * 400 + i * 64 + (m + 1) * 8 + 0 := by clear h2 h3; generalize lensJ l k = q at *; omega
  exact ⟨n, f, hn, h2, h3.upM⟩
set_option maxRecDepth 100000 in
theorem Mp.upI {l : List (List TJointOption)} {cl : Nat → Nat → Nat → Nat → Bool} {mb k i : Nat} {W : World} (h : Mp l cl mb k i (lensJ l i) 0 W) (h8 : lensJ l i ≤ 8) : Mp l cl mb k (i + 1) 0 0 W := by
  obtain ⟨n, f, h1, h2, h3⟩ := h
  have hn : n ≤ k * 400 + (i + 1) * 64 + 0 * 8 + 0 := by clear h2 h3; generalize lensJ l i = q at *; omega
  exact ⟨n, f, hn, h2, h3.upI⟩
theorem Mp.upK {l : List (List TJointOption)} {cl : Nat → Nat → Nat → Nat → Bool} {mb k : Nat} {W : World} (h : Mp l cl mb k k 0 0 W) (h8 : k ≤ 6) : Mp l cl mb (k + 1) 0 0 0 W := by
  obtain ⟨n, f, h1, h2, h3⟩ := h
  exact ⟨n, f, by omega, h2, h3.upK⟩
theorem few_of {l : List (List TJointOption)} (h : fewL l = true) : l.length ≤ 6 ∧ ∀ o ∈ l, o.length ≤ 8 := by
  unfold fewL at h
  simp only [Bool.and_eq_true, decide_eq_true_eq, List.all_eq_true] at h
  exact ⟨h.1, h.2⟩
theorem tup_ii {c : Cx} {x z : Int} {v : Value} (h : VRel c (.tup [intA x, intA z]) v) : v = .tuple #[.int .i64 x, .int .i64 z] := by
  cases h with
  | tup h =>
    cases h with
    | cons h1 t =>
      cases t with
      | cons h2 t =>
        cases t
        cases h1; cases h2; rfl
theorem opts_cells {no : Nat → Prop} {w : World} {l : List (List TJointOption)} {a : Option Addr} {L c : Nat} (h : VRel (cxA no w) (lstA (lstE TJointOption.E) l) (.slice a L c)) (i : Nat) (o : List TJointOption) (hi : l[i]? = some o) :
    ∃ ba off, a = some ⟨ba, off, none⟩ ∧ ba < w.heap.size ∧ ∃ oa oc, w.cell? ⟨ba, off + i, none⟩ = some (.slice oa o.length oc) ∧ VRel (cxA no w) (lstA TJointOption.E o) (.slice oa o.length oc) := by
  obtain ⟨ba, la, lc, e, hba, -, hlc⟩ := lst_openV h (by rintro rfl; simp at hi)
  cases e
  obtain ⟨y, h1, h2⟩ := hlc i o hi 0 _ (by decide) rfl
  obtain ⟨oa, oc, rfl⟩ := slice_lenE h2
  refine ⟨_, _, rfl, hba, oa, oc, ?_, h2⟩
  rw [← h1]
  show w.cell? ⟨ba, la + i, none⟩ = w.cell? ⟨ba, la + (i * 1 + 0), none⟩
  rw [Nat.mul_one, Nat.add_zero]
theorem opt_cells {no : Nat → Prop} {w : World} {o : List TJointOption} {a : Option Addr} {L c : Nat} (h : VRel (cxA no w) (lstA TJointOption.E o) (.slice a L c)) (m : Nat) (x : TJointOption) (hi : o[m]? = some x) :
    ∃ bo oo, a = some ⟨bo, oo, none⟩ ∧ bo < w.heap.size ∧ w.cell? ⟨bo, oo + m * 2, none⟩ = some (.int .i64 x.Cost) ∧ ∃ tv, w.cell? ⟨bo, oo + m * 2 + 1, none⟩ = some tv ∧ VRel (cxA no w) (lstA TTubeNode.E x.Tube) tv := by
  obtain ⟨ba, la, lc, e, hba, -, hlc⟩ := lst_openV h (by rintro rfl; simp at hi)
  cases e
  obtain ⟨y, h1, h2⟩ := hlc m x hi 0 (intA x.Cost) (by decide) rfl
  obtain ⟨tv, h3, h4⟩ := hlc m x hi 1 (lstA TTubeNode.E x.Tube) (by decide) rfl
  obtain rfl := int_of2 h2
  exact ⟨_, _, rfl, hba, h1, tv, h3, h4⟩
theorem sep_rel (c : Cx) (s : TSep) : VRel c (AV.agg [intA s.Lateral, intA s.Vertical]) (.agg #[.int .i64 s.Lateral, .int .i64 s.Vertical]) :=
  VRel.agg (vs := [.int .i64 s.Lateral, .int .i64 s.Vertical]) (.cons (.sc _ rfl) (.cons (.sc _ rfl) .nil))
theorem clAll_at {n : Nat} {l : List (List TJointOption)} {s : TSep} (hc : clAll n l s = true) {i k m q : Nat} (h1 : i < k) (h2 : k < l.length) (h3 : m < lensJ l i) (h4 : q < lensJ l k) : (clO n l s i k m q).isSome = true := by
  unfold clAll at hc
  simp only [List.all_eq_true, List.mem_range] at hc
  exact hc k h2 i h1 m h3 q h4
set_option maxRecDepth 100000 in
set_option maxHeartbeats 8000000 in
theorem of_ok {w : World} {n : Nat} {l : List (List TJointOption)} {s : TSep} {lv : Value} (hl : VRel (cxA (fun _ => False) w) (lstA (lstE TJointOption.E) l) lv)
    (sF : ∀ (x y : List TTubeNode) t, g42 n x y s = some t → Says Try.prog KK.gl 42 [lstA TTubeNode.E x, lstA TTubeNode.E y, AV.agg [intA s.Lateral, intA s.Vertical]] (.tup [intA t.1, intA t.2]))
    (sS : Says Try.prog KK.gl 36 [AV.agg [intA s.Lateral, intA s.Vertical]] (intA 0)) (sC : Says Try.prog KK.gl 23 [lstA (lstE TJointOption.E) l] (intA 0))
    (hc : clAll n l s = true) (hf : fewL l = true) :
    Calls Try.prog 24 #[lv, .agg #[.int .i64 s.Lateral, .int .i64 s.Vertical]] w fun e w' => ∃ mb, e = .returned (.tuple #[.agg #[lv, .map (some mb)], .int .i64 0]) ∧ Kept w w' ∧ w.heap.size ≤ mb ∧ Mp l (clF n l s) mb l.length 0 0 0 w' := by
  obtain ⟨hl6, hl8⟩ := few_of hf
  have hle : ∀ k, lensJ l k ≤ 8 := fun k => by
    unfold lensJ
    cases h : l[k]? with
    | none => rw [List.getD, h]; exact Nat.zero_le _
    | some o => rw [List.getD, h]; exact hl8 o (List.mem_of_getElem? h)
  obtain ⟨la, lc, rfl⟩ := slice_lenE hl
  generalize hL : l.length = L at *
  have HR := Lib.hid (opts_cells hl)
  have sS1 := fun W (hk : Kept w W) => says_kK sS (w := w) (vals := [_]) (.cons (sep_rel _ s) .nil) W hk
  have sC1 := fun W (hk : Kept w W) => says_kK sC (w := w) (.cons hl .nil) W hk
  clear hl sS sC
  obtain ⟨V0, hV0⟩ : ∃ V0, (w.alloc (.cells #[.int .i64 s.Lateral, .int .i64 s.Vertical] 24)).alloc (.cells #[.slice none 0 0, .map none] 63) = V0 := ⟨_, rfl⟩
  have hK0 : Kept w V0 := by rw [← hV0]; exact ((Kept.refl _).al _).al _
  have hs0 : V0.heap.size = w.heap.size + 2 := by rw [← hV0]; simp
  have b1 : V0.heap[w.heap.size]? = some (.cells #[.int .i64 s.Lateral, .int .i64 s.Vertical] 24 (0, 0)) := by
    rw [← hV0]
    exact (Below.heap_alloc _ _ _ (by simp)).trans (World.alloc_heap_new _ _)
  have b2 : V0.heap[w.heap.size + 1]? = some (.cells #[.slice none 0 0, .map none] 63 (0, 0)) := by
    rw [← hV0]
    have := World.alloc_heap_new (w.alloc (.cells #[.int .i64 s.Lateral, .int .i64 s.Vertical] 24)) (.cells #[.slice none 0 0, .map none] 63)
    rwa [World.size_alloc] at this
  obtain ⟨b1x, b1y⟩ := both2 b1
  go_enter Try.func24, Try.ntmps24
  go_wp2_with fail
  refine (sS1 V0 hK0).mono ?_
  rintro e w1 ⟨v1, rfl, hk1, hv1⟩
  obtain rfl := int_of2 hv1
  clear hv1 sS1 b1x b1y hV0
  go_wp2_with fail
  refine (sC1 w1 (hK0.trans hk1)).mono ?_
  rintro e w2 ⟨v2, rfl, hk2, hv2⟩
  obtain rfl := int_of2 hv2
  clear hv2 sC1
  obtain ⟨V8, hV8⟩ : ∃ V8, (w2.alloc (.map #[] 0)).alloc (.cells #[.slice la L lc, .map (some w2.heap.size)] 63) = V8 := ⟨_, rfl⟩
  have hK2 : Kept w w2 := (hK0.trans hk1).trans hk2
  have hK8 : Kept w2 V8 := by rw [← hV8]; exact ((Kept.refl _).al _).al _
  have hs8 : V8.heap.size = w2.heap.size + 2 := by rw [← hV8]; simp
  have b1 := (((hk1.trans hk2).trans hK8).blk _ (heap_lt b1)).trans b1
  have b2 := (((hk1.trans hk2).trans hK8).blk _ (heap_lt b2)).trans b2
  have b8 : V8.heap[w2.heap.size + 1]? = some (.cells #[.slice la L lc, .map (some w2.heap.size)] 63 (0, 0)) := by
    rw [← hV8]
    have := World.alloc_heap_new (w2.alloc (.map #[] 0)) (.cells #[.slice la L lc, .map (some w2.heap.size)] 63)
    rwa [World.size_alloc] at this
  have hmp : Mp l (clF n l s) w2.heap.size 0 0 0 0 V8 := by
    refine ⟨0, fun _ _ _ _ => false, by omega, ?_, Pg.start⟩
    rw [← hV8]
    exact (MapIs.made w2).kept ((Kept.refl _).al _)
  have hmk : (Instr.makeMap 61 none).run Try.prog w2 = .ok (.map (some w2.heap.size)) (w2.alloc (.map #[] 0)) := rfl
  have hmw : w.heap.size + 2 ≤ w2.heap.size := by have h1 := hk1.size; have h2 := hk2.size; omega
  go_wp2_with fail
  clear hmk
  generalize w2.heap.size = mb at *
  have toK : ∀ W, Kno (fun x => x = mb) V8 W → Kept w W := fun W hW => hW.kept (hK2.trans hK8).size (fun k hk => by omega) (hK2.trans hK8)
  go_loopw [34] (fun i wr => ∃ k : Nat, k ≤ L ∧ i = .int .i64 k ∧ Kno (fun x => x = mb) V8 wr ∧ Mp l (clF n l s) mb k 0 0 0 wr) (fun i _ => L - (intOf i).toNat)
  case atStart => exact ⟨0, Nat.zero_le _, rfl, Kno.refl _ _, hmp⟩
  case round =>
    clear hmp
    obtain ⟨k, hk, rfl, hkn, hmp⟩ := hrel
    generalize wr = w3 at *
    by_cases hlt : k < L
    · have hlt2 : (k : Int) < (L : Int) := by omega
      go_wp2_with fail
      go_loopw [38] (fun i wr => ∃ i' : Nat, i' ≤ k ∧ i = .int .i64 i' ∧ Kno (fun x => x = mb) V8 wr ∧ Mp l (clF n l s) mb k i' 0 0 wr) (fun i _ => k - (intOf i).toNat)
      case atStart => exact ⟨0, Nat.zero_le _, rfl, hkn, hmp⟩
      case round =>
        clear hmp hkn
        obtain ⟨i, hi, rfl, hkn, hmp⟩ := hrel
        generalize wr = w4 at *
        by_cases hilt : i < k
        · have hilt2 : (i : Int) < (k : Int) := by omega
          have hilt3 : (i : Int) < (L : Int) := by omega
          obtain ⟨oi, hoi⟩ : ∃ o, l[i]? = some o := ⟨_, List.getElem?_eq_getElem (by omega)⟩
          obtain ⟨ok, hok⟩ : ∃ o, l[k]? = some o := ⟨_, List.getElem?_eq_getElem (by omega)⟩
          obtain ⟨ba, off, hla, hba, ia, ic, hci, hri⟩ := HR.out i oi hoi
          obtain ⟨ba', off', hla', hba', ka, kc, hck, hrk⟩ := HR.out k ok hok
          subst hla
          cases hla'
          have keep : ∀ W, Kno (fun x => x = mb) V8 W → ∀ a : Addr, a.block < w.heap.size → W.cell? a = w.cell? a := fun W hW a ha => by
            have h1 := (hK2.trans hK8).size
            simp only [World.cell?]
            rw [hW.blk a.block (by omega) (by omega), (hK2.trans hK8).blk a.block ha]
          have hmi : lensJ l i = oi.length := by unfold lensJ; rw [List.getD, hoi]; rfl
          have hmk : lensJ l k = ok.length := by unfold lensJ; rw [List.getD, hok]; rfl
          have c1 := (keep w4 hkn ⟨ba, off + i, none⟩ hba).trans hci
          have c2 := (keep w4 hkn ⟨ba, off + k, none⟩ hba).trans hck
          have XI := Lib.hid (opt_cells hri); have XK := Lib.hid (opt_cells hrk)
          have h8i := hle i; have h8k := hle k
          rw [hmi] at h8i
          rw [hmk] at h8k
          have KP := Lib.hid keep
          have Hci := Lib.hid hci
          have Hck := Lib.hid hck
          clear hri hrk keep hci hck
          generalize hMi : oi.length = mi at *
          generalize hMk : ok.length = mk at *
          go_wp2_with fail
          go_loopw [46] (fun u wr => ∃ m : Nat, m ≤ mi ∧ u = .int .i64 m ∧ Kno (fun x => x = mb) V8 wr ∧ Mp l (clF n l s) mb k i m 0 wr) (fun u _ => mi - (intOf u).toNat)
          case atStart => exact ⟨0, Nat.zero_le _, rfl, hkn, hmp⟩
          case round =>
            clear hmp hkn c1 c2
            obtain ⟨m, hm, rfl, hkn, hmp⟩ := hrel
            generalize wr = w5 at *
            by_cases hmlt : m < mi
            · have hmlt2 : (m : Int) < (mi : Int) := by omega
              obtain ⟨x, hx⟩ : ∃ o, oi[m]? = some o := ⟨_, List.getElem?_eq_getElem (by omega)⟩
              obtain ⟨xb, xo, hxa, hxb, hx1, tx, hx2, hxr⟩ := XI.out m x hx
              subst hxa
              obtain ⟨xt, xc, rfl⟩ := slice_lenE hxr
              generalize hXl : x.Tube.length = xl at *
              have c1 := (KP.out w5 hkn ⟨ba, off + i, none⟩ hba).trans Hci.out
              have c2 := (KP.out w5 hkn ⟨ba, off + k, none⟩ hba).trans Hck.out
              have c3 := (KP.out w5 hkn ⟨xb, xo + m * 2, none⟩ hxb).trans hx1
              have c4 := (KP.out w5 hkn ⟨xb, xo + m * 2 + 1, none⟩ hxb).trans hx2
              obtain ⟨W12, hW12⟩ : ∃ W, w5.alloc (.cells #[.int .i64 x.Cost, .slice xt xl xc] 39) = W := ⟨_, rfl⟩
              have hk12 : Kept w5 W12 := by rw [← hW12]; exact (Kept.refl _).al _
              have b12 : W12.heap[w5.heap.size]? = some (.cells #[.int .i64 x.Cost, .slice xt xl xc] 39 (0, 0)) := by rw [← hW12]; exact World.alloc_heap_new _ _
              have hs12 : W12.heap.size = w5.heap.size + 1 := by rw [← hW12]; simp
              have hmb5 := hkn.size
              have c2' := (KP.out W12 (hkn.trans (hk12.kno _)) ⟨ba, off + k, none⟩ hba).trans Hck.out
              go_wp2_with fail
              go_loopw [56] (fun u wr => ∃ q : Nat, q ≤ mk ∧ u = .int .i64 q ∧ Kno (fun x => x = mb) W12 wr ∧ Mp l (clF n l s) mb k i m q wr) (fun u _ => mk - (intOf u).toNat)
              case atStart => exact ⟨0, Nat.zero_le _, rfl, Kno.refl _ _, hmp.kept hk12⟩
              case round =>
                clear hmp c1 c2 c3 c4 c2'
                have hkn2 := hkn.trans (hk12.kno _)
                clear hkn
                obtain ⟨q, hq, rfl, hkn, hmp⟩ := hrel
                generalize wr = w6 at *
                have hkn3 := hkn2.trans hkn
                by_cases hqlt : q < mk
                · have hqlt2 : (q : Int) < (mk : Int) := by omega
                  obtain ⟨y, hy⟩ : ∃ o, ok[q]? = some o := ⟨_, List.getElem?_eq_getElem (by omega)⟩
                  obtain ⟨yb, yo, hya, hyb, hy1, ty, hy2, hyr⟩ := XK.out q y hy
                  subst hya
                  obtain ⟨yt, yc, rfl⟩ := slice_lenE hyr
                  generalize hYl : y.Tube.length = yl at *
                  have c3 := (KP.out w6 hkn3 ⟨yb, yo + q * 2, none⟩ hyb).trans hy1
                  have c4 := (KP.out w6 hkn3 ⟨yb, yo + q * 2 + 1, none⟩ hyb).trans hy2
                  have b12' := (hkn.blk _ (heap_lt b12) (by omega)).trans b12
                  have hb3 : w.heap.size < V8.heap.size := by omega
                  have b1' := (hkn3.blk _ hb3 (by omega)).trans b1
                  have b8' := (hkn3.blk (mb + 1) (by omega) (by omega)).trans b8
                  obtain ⟨W14, hW14⟩ : ∃ W, w6.alloc (.cells #[.int .i64 y.Cost, .slice yt yl yc] 39) = W := ⟨_, rfl⟩
                  have hk14 : Kept w6 W14 := by rw [← hW14]; exact (Kept.refl _).al _
                  obtain ⟨c5, c6⟩ := both2 ((hk14.blk _ (heap_lt b12')).trans b12')
                  obtain ⟨c7, c8⟩ := both2 ((hk14.blk _ (heap_lt b1')).trans b1')
                  obtain ⟨c9, c10⟩ := both2 (show W14.heap[w6.heap.size]? = some (.cells #[.int .i64 y.Cost, .slice yt yl yc] 39 (0, 0)) by rw [← hW14]; exact World.alloc_heap_new _ _)
                  have hclO := clAll_at hc hilt (by omega) (show m < lensJ l i by omega) (show q < lensJ l k by omega)
                  obtain ⟨v, hv⟩ := Option.isSome_iff_exists.1 hclO
                  have hclF : clF n l s i k m q = v := by unfold clF; rw [hv]; rfl
                  unfold clO at hv
                  rw [hoi, hok] at hv
                  simp only [Option.bind_some, hx, hy] at hv
                  obtain ⟨r, hr, hrv⟩ := Option.map_eq_some_iff.1 hv
                  have hkw14 : Kno (fun x => x = mb) V8 W14 := hkn3.trans (hk14.kno _)
                  have hfirst := says_kK (sF _ _ _ hr) (w := w) (.cons hxr (.cons hyr (.cons (sep_rel _ s) .nil))) W14 (toK _ hkw14)
                  subst hrv
                  have HCL := Lib.hid hclF
                  clear hclO hclF hv hr hx hy hxr hyr
                  go_wp2_with fail
                  refine hfirst.mono ?_
                  rintro e w7 ⟨v7, rfl, hk7, hv7⟩
                  obtain rfl := tup_ii hv7
                  clear hfirst hv7 c3 c4 c5 c6 c7 c8 c9 c10
                  have hk67 := hk14.trans hk7
                  obtain ⟨c3, c4⟩ := both2 ((hk67.blk _ (heap_lt b8')).trans b8')
                  obtain ⟨w8, hput, hmp8, hkn8⟩ := (hmp.kept hk67).put (by omega) (by omega) (by omega) (by omega) HCL.out.symm
                  have hkn68 := (hkn.trans (hk67.kno _)).trans hkn8
                  have HM := Lib.hid hmp8
                  clear hmp8 hmp
                  go_wp2_with fail
                  exact ⟨⟨q + 1, hqlt, by rw [show (q : Int) + 1 = ((q + 1 : Nat) : Int) by omega], hkn68, HM.out⟩, by simp [intOf]; omega⟩
                · obtain rfl : q = mk := by omega
                  have hqn : ¬ (q : Int) < (q : Int) := by omega
                  have hmp2 : Mp l (clF n l s) mb k i (m + 1) 0 w6 := Mp.upM (by rw [hmk]; exact hmp) (by omega)
                  have HM := Lib.hid hmp2
                  clear hmp hmp2
                  go_wp2_with fail
                  exact ⟨⟨m + 1, hmlt, by rw [show (m : Int) + 1 = ((m + 1 : Nat) : Int) by omega], hkn3, HM.out⟩, by simp [intOf]; omega⟩
            · obtain rfl : m = mi := by omega
              have hqn : ¬ (m : Int) < (m : Int) := by omega
              have hmp2 : Mp l (clF n l s) mb k (i + 1) 0 0 w5 := Mp.upI (by rw [hmi]; exact hmp) (by omega)
              have HM := Lib.hid hmp2
              clear hmp hmp2
              go_wp2_with fail
              exact ⟨⟨i + 1, hilt, by rw [show (i : Int) + 1 = ((i + 1 : Nat) : Int) by omega], hkn, HM.out⟩, by simp [intOf]; omega⟩
        · obtain rfl : i = k := by omega
          have hqn : ¬ (i : Int) < (i : Int) := by omega
          have hmp2 : Mp l (clF n l s) mb (i + 1) 0 0 0 w4 := Mp.upK hmp (by omega)
          have HM := Lib.hid hmp2
          clear hmp hmp2
          go_wp2_with fail
          exact ⟨⟨i + 1, hlt, by rw [show (i : Int) + 1 = ((i + 1 : Nat) : Int) by omega], hkn, HM.out⟩, by simp [intOf]; omega⟩
    · obtain rfl : k = L := by omega
      have hqn : ¬ (k : Int) < (k : Int) := by omega
      have hb3 : w.heap.size + 1 < V8.heap.size := by omega
      have b8' := (hkn.blk (mb + 1) (by omega) (by omega)).trans b8
      have b2' := (hkn.blk (w.heap.size + 1) (by omega) (by omega)).trans b2
      obtain ⟨c3, c4⟩ := both2 b8'
      have hfin := toK _ hkn
      have HM := Lib.hid hmp
      obtain ⟨c5, c6⟩ := both2 b2'
      have f5 : w3.frozen? ⟨w.heap.size + 1, 0, none⟩ = false := by simp [World.frozen?, b2']
      have f6 : w3.frozen? ⟨w.heap.size + 1, 1, none⟩ = false := by simp [World.frozen?, b2']
      clear hmp
      go_wp2_with fail
      obtain ⟨WE, hWE⟩ : ∃ WE, (w3.setCell ⟨w.heap.size + 1, 0, none⟩ (.slice la k lc)).setCell ⟨w.heap.size + 1, 1, none⟩ (.map (some mb)) = WE := ⟨_, rfl⟩
      have hE : WE.heap[w.heap.size + 1]? = some (.cells #[.slice la k lc, .map (some mb)] 63 (0, 0)) := by
        rw [← hWE]
        exact set_block (set_block b2' 0 _) 1 _
      obtain ⟨d0, d1⟩ := both2 hE
      have hKE : Kno (fun x => x = w.heap.size + 1) w3 WE := by rw [← hWE]; exact ((Kno.refl (fun x => x = w.heap.size + 1) w3).setCell ⟨w.heap.size + 1, 0, none⟩ (.inl rfl) _).setCell ⟨w.heap.size + 1, 1, none⟩ (.inl rfl) _
      have hKw : Kept w WE := hKE.kept hfin.size (fun k hk => by omega) hfin
      have hME : Mp l (clF n l s) mb k 0 0 0 WE := by
        obtain ⟨n', f, q1, q2, q3⟩ := HM.out
        exact ⟨n', f, q1, q2.kno hKE (by omega), q3⟩
      rw [hWE]
      clear c3 c4 c5 c6 f5 f6 b2' b8' hWE hE hKE
      refine bodyPost_ret (v := .tuple #[.agg #[.slice la k lc, .map (some mb)], .int .i64 0]) (by simp [results, Try.f24, go_sem, d0, d1]) rfl ?_
      exact ⟨mb, rfl, hKw, by omega, hME⟩
/- what the options are checked for -/
def ofE (n : Nat) (l : List (List TJointOption)) (s : TSep) : Option Int := (g36 n s).bind fun e => bif e != 0 then some e else g23 n l
set_option maxRecDepth 100000 in
set_option maxHeartbeats 8000000 in
theorem of_err {w : World} {l : List (List TJointOption)} {s : TSep} {lv : Value} (hl : VRel (cxA (fun _ => False) w) (lstA (lstE TJointOption.E) l) lv) {e1 e2 : Int}
    (sS : Says Try.prog KK.gl 36 [AV.agg [intA s.Lateral, intA s.Vertical]] (intA e1)) (sC : e1 = 0 → Says Try.prog KK.gl 23 [lstA (lstE TJointOption.E) l] (intA e2))
    (he : e1 = 0 → e2 ≠ 0) :
    Calls Try.prog 24 #[lv, .agg #[.int .i64 s.Lateral, .int .i64 s.Vertical]] w fun e w' => e = .returned (.tuple #[.agg #[.slice none 0 0, .map none], .int .i64 (if e1 = 0 then e2 else e1)]) ∧ Kept w w' := by
  obtain ⟨la, lc, rfl⟩ := slice_lenE hl
  generalize hL : l.length = L at *
  have sS1 := fun W (hk : Kept w W) => says_kK sS (w := w) (vals := [_]) (.cons (sep_rel _ s) .nil) W hk
  have sC1 := fun W (hk : Kept w W) he => says_kK (sC he) (w := w) (.cons hl .nil) W hk
  clear hl sS sC
  obtain ⟨V0, hV0⟩ : ∃ V0, (w.alloc (.cells #[.int .i64 s.Lateral, .int .i64 s.Vertical] 24)).alloc (.cells #[.slice none 0 0, .map none] 63) = V0 := ⟨_, rfl⟩
  have hK0 : Kept w V0 := by rw [← hV0]; exact ((Kept.refl _).al _).al _
  have hs0 : V0.heap.size = w.heap.size + 2 := by rw [← hV0]; simp
  have b1 : V0.heap[w.heap.size]? = some (.cells #[.int .i64 s.Lateral, .int .i64 s.Vertical] 24 (0, 0)) := by
    rw [← hV0]
    exact (Below.heap_alloc _ _ _ (by simp)).trans (World.alloc_heap_new _ _)
  have b2 : V0.heap[w.heap.size + 1]? = some (.cells #[.slice none 0 0, .map none] 63 (0, 0)) := by
    rw [← hV0]
    have := World.alloc_heap_new (w.alloc (.cells #[.int .i64 s.Lateral, .int .i64 s.Vertical] 24)) (.cells #[.slice none 0 0, .map none] 63)
    rwa [World.size_alloc] at this
  obtain ⟨b1x, b1y⟩ := both2 b1
  have fin : ∀ W, Kept V0 W → ∃ WE, (W.setCell ⟨w.heap.size + 1, 0, none⟩ (.slice none 0 0)).setCell ⟨w.heap.size + 1, 1, none⟩ (.map none) = WE ∧ WE.heap[w.heap.size + 1]? = some (.cells #[.slice none 0 0, .map none] 63 (0, 0)) ∧ Kept w WE := fun W hk => by
    have b2' := (hk.blk _ (heap_lt b2)).trans b2
    refine ⟨_, rfl, set_block (set_block b2' 0 _) 1 _, ((hK0.trans hk).set _ ?_ _).set _ ?_ _⟩
    · show w.heap.size ≤ w.heap.size + 1; omega
    · show w.heap.size ≤ w.heap.size + 1; omega
  have fr : ∀ W, Kept V0 W → (W.frozen? ⟨w.heap.size + 1, 0, none⟩ = false ∧ W.frozen? ⟨w.heap.size + 1, 1, none⟩ = false) ∧ W.cell? ⟨w.heap.size + 1, 0, none⟩ = some (.slice none 0 0) ∧ W.cell? ⟨w.heap.size + 1, 1, none⟩ = some (.map none) := fun W hk => by
    have b2' := (hk.blk _ (heap_lt b2)).trans b2
    exact ⟨⟨by simp [World.frozen?, b2'], by simp [World.frozen?, b2']⟩, both2 b2'⟩
  have FN := Lib.hid fin
  have FR := Lib.hid fr
  clear fin fr
  go_enter Try.func24, Try.ntmps24
  go_wp2_with fail
  refine (sS1 V0 hK0).mono ?_
  rintro e w1 ⟨v1, rfl, hk1, hv1⟩
  obtain rfl := int_of2 hv1
  clear hv1 sS1 b1x b1y hV0
  by_cases h1 : e1 = 0
  · subst h1
    have he2 : (e2 != 0) = true := bne_iff_ne.2 (he rfl)
    have sC2 := sC1 w1 (hK0.trans hk1) rfl
    clear sC1 he
    go_wp2_with fail
    refine sC2.mono ?_
    rintro e w2 ⟨v2, rfl, hk2, hv2⟩
    obtain rfl := int_of2 hv2
    clear hv2 sC2
    obtain ⟨⟨f5, f6⟩, c5, c6⟩ := FR.out w2 (hk1.trans hk2)
    go_wp2_with fail
    obtain ⟨WE, hWE, hE, hKw⟩ := FN.out w2 (hk1.trans hk2)
    obtain ⟨d0, d1⟩ := both2 hE
    rw [hWE]
    clear c5 c6 f5 f6 hWE hE
    refine bodyPost_ret (v := .tuple #[.agg #[.slice none 0 0, .map none], .int .i64 e2]) (by simp [results, Try.f24, go_sem, d0, d1]) rfl ?_
    exact ⟨rfl, hKw⟩
  · have he2 : (e1 != 0) = true := bne_iff_ne.2 h1
    have HN := Lib.hid h1
    obtain ⟨⟨f5, f6⟩, c5, c6⟩ := FR.out w1 hk1
    clear h1 he sC1
    go_wp2_with fail
    obtain ⟨WE, hWE, hE, hKw⟩ := FN.out w1 hk1
    obtain ⟨d0, d1⟩ := both2 hE
    rw [hWE]
    clear c5 c6 f5 f6 hWE hE
    refine bodyPost_ret (v := .tuple #[.agg #[.slice none 0 0, .map none], .int .i64 e1]) (by simp [results, Try.f24, go_sem, d0, d1]) rfl ?_
    exact ⟨rfl, hKw⟩
end Go.Proofs.Ytlgbioidkbeanaa
