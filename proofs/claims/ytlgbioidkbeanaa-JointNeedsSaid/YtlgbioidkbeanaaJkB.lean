/- task.walk, with the closures of Best: all choices are visited, each in its turn. -/
import Derived.Test.YtlgbioidkbeanaaJk0
set_option linter.unusedVariables false
set_option linter.unusedSimpArgs false
namespace Go.Proofs.Ytlgbioidkbeanaa
open Go.RowKit Go.Shelf

set_option maxRecDepth 100000 in
set_option maxHeartbeats 8000000 in
theorem walkB_calls {σ : Type} {l : List (List TJointOption)} (hl6 : l.length ≤ 6) (hl8 : ∀ o ∈ l, o.length ≤ 8) {cl : Nat → Nat → Nat → Nat → Bool} {fr : σ → List Int → Option σ} {rf : σ → List Int → Int → Option σ} {no no1 : Nat → Prop} {J : σ → World → Prop} (hJ : ∀ s A B, J s A → Kept A B → J s B)
    {lv : Value} {mb n : Nat} {f : Int → Int → Int → Int → Bool} (hf : ∀ i k m q : Nat, i < k → k < l.length → m < (l.getD i []).length → q < (l.getD k []).length → f (i : Int) (k : Int) (m : Int) (q : Int) = cl i k m q)
    (hJm : ∀ s w, J s w → MapIs w mb n f ∧ VRel (cxA no1 w) (lstA (lstE TJointOption.E) l) lv) {ca cb : Array Value}
    (hfr : ∀ (s r : σ) (c : List Int) (v : Value) (w : World), ChOk l c → c.length = l.length → (∀ b, no b → b < w.heap.size) → VRel (cxA no w) (lstA intE c) v → J s w → fr s c = some r → Calls Try.prog 26 (#[v] ++ ca) w fun e w' => (∃ u, e = .returned u) ∧ J r w' ∧ Kno no w w')
    (hrf : ∀ (s r : σ) (c : List Int) (i : Int) (v : Value) (w : World), ChOk l c → (∀ b, no b → b < w.heap.size) → VRel (cxA no w) (lstA intE c) v → J s w → rf s c i = some r → Calls Try.prog 27 (#[v, .int .i64 i] ++ cb) w fun e w' => (∃ u, e = .returned u) ∧ J r w' ∧ Kno no w w') :
    ∀ (k : Nat) (c : List Int) (s r : σ) (v : Value) (w : World), c.length + k = l.length → ChOk l c → (∀ b, no b → b < w.heap.size) → VRel (cxA no w) (lstA intE c) v → J s w → wlk l cl fr rf k c s = some r →
      Calls Try.prog 25 #[.agg #[lv, .map (some mb)], v, .func (.func 26) #[] ca, .func (.func 27) #[] cb] w fun e w' => e = .returned (.tuple #[]) ∧ J r w' ∧ Kno no w w' := by
  intro k
  induction k with
  | zero =>
    intro c s r v w hk hco hn hr hs hg
    have hlen : c.length = l.length := by omega
    obtain ⟨hM, hlv⟩ := hJm s w hs
    obtain ⟨la, lc, rfl⟩ := slice_lenE hlv
    obtain ⟨a, cap, hve⟩ := slice_len hr
    rw [hlen] at hve
    subst hve
    unfold wlk at hg
    have post : ∀ W, Kept w W → ∀ {e : Ending} {w' : World}, ((∃ u, e = .returned u) ∧ J r w' ∧ Kno no W w') → (∃ u, e = .returned u) ∧ J r w' ∧ Kno no w w' := fun W hk e w' ⟨h1, h2, h3⟩ => ⟨h1, h2, (hk.kno no).trans h3⟩
    have free : ∀ W, Kept w W → fr s c = some r → Calls Try.prog 26 (#[.slice a l.length cap] ++ ca) W fun e w' => (∃ u, e = .returned u) ∧ J r w' ∧ Kno no w w' := fun W hk hfs =>
      (hfr s r c _ W hco hlen (fun b hb => Nat.lt_of_lt_of_le (hn b hb) hk.size) ((hk.kno no).rel hr (lstA_clean _ _)) (hJ _ _ _ hs hk) hfs).mono fun e w' h => post W hk h
    have refu : ∀ W, Kept w W → ∀ i, rf s c i = some r → Calls Try.prog 27 (#[.slice a l.length cap, .int .i64 i] ++ cb) W fun e w' => (∃ u, e = .returned u) ∧ J r w' ∧ Kno no w w' := fun W hk i hfs =>
      (hrf s r c i _ W hco (fun b hb => Nat.lt_of_lt_of_le (hn b hb) hk.size) ((hk.kno no).rel hr (lstA_clean _ _)) (hJ _ _ _ hs hk) hfs).mono fun e w' h => post W hk h
    have withc : ∀ W, Kept w W → c ≠ [] → Calls Try.prog 43 #[.agg #[.slice la l.length lc, .map (some mb)], .slice a l.length cap] W fun e w' => e = .returned (.int .i64 (withF cl c)) ∧ Kept W w' ∧ Kept w w' := fun W hk hne =>
      (with_of hl6 hl8 hf hco hne ((hk.kno no).rel hr (lstA_clean _ _)) (hM.kept hk)).mono fun e w' ⟨h1, h2⟩ => ⟨h1, h2, hk.trans h2⟩
    clear hfr hrf hJm hJ hM hlv hr
    generalize hLe : l.length = L at *
    obtain ⟨W1, hW1⟩ : ∃ W1, w.alloc (.cells #[.slice la L lc, .map (some mb)] 63) = W1 := ⟨_, rfl⟩
    have hk1 : Kept w W1 := by rw [← hW1]; exact (Kept.refl _).al _
    have hb1 : W1.heap[w.heap.size]? = some (.cells #[.slice la L lc, .map (some mb)] 63 (0, 0)) := by rw [← hW1]; exact World.alloc_heap_new _ _
    have hx0 : W1.cell? ⟨w.heap.size, 0, none⟩ = some (.slice la L lc) := by simp [World.cell?, hb1]
    have hx1 : W1.cell? ⟨w.heap.size, 1, none⟩ = some (.map (some mb)) := by simp [World.cell?, hb1]
    by_cases hne : c = []
    · rw [if_neg (by simp [hne])] at hg
      have hL : ¬ (0 : Int) < (L : Int) := by rw [hne] at hlen; simp at hlen; omega
      have hL0 : L = 0 := by omega
      go_enter Try.func25, Try.ntmps25
      clear hL0
      go_wp2_with fail
      refine (free W1 hk1 hg).mono ?_
      rintro e w2 ⟨⟨u, rfl⟩, h1, h2⟩
      go_wp2_with fail
      refine bodyPost_ret (results_none rfl _ _ _) rfl ?_
      exact ⟨rfl, h1, h2⟩
    · have hL : (0 : Int) < (L : Int) := by have : 0 < c.length := List.length_pos_iff.2 hne; omega
      go_enter Try.func25, Try.ntmps25
      go_wp2_with fail
      refine (withc W1 hk1 hne).mono ?_
      rintro e w2 ⟨rfl, hk12, hk2⟩
      by_cases hw : 0 ≤ withF cl c
      · rw [if_pos ⟨hne, hw⟩] at hg
        go_wp2_with fail
        refine (refu w2 hk2 _ hg).mono ?_
        rintro e w3 ⟨⟨u, rfl⟩, h1, h2⟩
        go_wp2_with fail
        refine bodyPost_ret (results_none rfl _ _ _) rfl ?_
        exact ⟨rfl, h1, h2⟩
      · rw [if_neg (fun h => hw h.2)] at hg
        have hx2 : w2.cell? ⟨w.heap.size, 0, none⟩ = some (.slice la L lc) := (hk12.cell (a := ⟨w.heap.size, 0, none⟩) (heap_lt hb1)).trans hx0
        go_wp2_with fail
        refine (free w2 hk2 hg).mono ?_
        rintro e w3 ⟨⟨u, rfl⟩, h1, h2⟩
        go_wp2_with fail
        refine bodyPost_ret (results_none rfl _ _ _) rfl ?_
        exact ⟨rfl, h1, h2⟩
  | succ k ih =>
    intro c s r v w hk hco hn hr hs hg
    have hlt : c.length < l.length := by omega
    obtain ⟨hM, hlv⟩ := hJm s w hs
    obtain ⟨ba, la, lc, rfl, hba, hbaN, hlc⟩ := lst_openV hlv (by rintro rfl; simp at hlt)
    obtain ⟨a, cap, hve⟩ := slice_len hr
    subst hve
    unfold wlk at hg
    have withc : ∀ W, Kept w W → c ≠ [] → Calls Try.prog 43 #[.agg #[.slice (some ⟨ba, la, none⟩) l.length lc, .map (some mb)], .slice a c.length cap] W fun e w' => e = .returned (.int .i64 (withF cl c)) ∧ Kept W w' ∧ Kept w w' := fun W hk hne =>
      (with_of hl6 hl8 hf hco hne ((hk.kno no).rel hr (lstA_clean _ _)) (hM.kept hk)).mono fun e w' ⟨h1, h2⟩ => ⟨h1, h2, hk.trans h2⟩
    have refu : ∀ W, Kept w W → ∀ i, rf s c i = some r → Calls Try.prog 27 (#[.slice a c.length cap, .int .i64 i] ++ cb) W fun e w' => (∃ u, e = .returned u) ∧ J r w' ∧ Kno no w w' := fun W hk i hfs =>
      (hrf s r c i _ W hco (fun b hb => Nat.lt_of_lt_of_le (hn b hb) hk.size) ((hk.kno no).rel hr (lstA_clean _ _)) (hJ _ _ _ hs hk) hfs).mono fun e w' ⟨h1, h2, h3⟩ => ⟨h1, h2, (hk.kno no).trans h3⟩
    have clonec : ∀ W, Kno no w W → Calls Try.prog 30 #[.slice a c.length cap] W fun e w' => ∃ v', e = .returned v' ∧ Kept W w' ∧ w'.ownsRow W.heap.size 3 1 v' c.length (c.map (Value.int .i64)) := fun W hk => callsIn_wide.1 (clone_row (hk.rel hr (lstA_clean _ _)) (by omega) 0)
    -- the options of the next flight
    generalize ho : l.getD c.length [] = o at hg
    have hol : l[c.length]? = some o := by rw [← ho]; simp [List.getD, hlt]
    have ho8 : o.length ≤ 8 := hl8 o (List.mem_of_getElem? hol)
    obtain ⟨ov, hov1, hov2⟩ := hlc c.length o hol 0 (lstA TJointOption.E o) (by decide) rfl
    obtain ⟨oa, oc, rfl⟩ := slice_lenE hov2
    have rec_ : ∀ (j : Nat) (s1 s2 : σ) (v3 : Value) (W : World), j < o.length → Kno no w W → VRel (cxA no W) (lstA intE (c ++ [(j : Int)])) v3 → J s1 W → wlk l cl fr rf k (c ++ [(j : Int)]) s1 = some s2 →
        Calls Try.prog 25 #[.agg #[.slice (some ⟨ba, la, none⟩) l.length lc, .map (some mb)], v3, .func (.func 26) #[] ca, .func (.func 27) #[] cb] W fun e w' => e = .returned (.tuple #[]) ∧ J s2 w' ∧ Kno no W w' := fun j s1 s2 v3 W hj hk hv hs1 hw =>
      ih (c ++ [(j : Int)]) s1 s2 v3 W (by simp; omega) (hco.snoc hlt (by rw [ho]; exact hj)) (fun b hb => Nat.lt_of_lt_of_le (hn b hb) hk.size) hv hs1 hw
    have hsame : la + c.length = la + (c.length * 1 + 0) := by omega
    clear ih hfr hrf hJm hM hlv hlc ho hov2
    obtain ⟨i0, hi, hzz⟩ := Option.map_eq_some_iff.1 infoI
    simp only [Prod.mk.injEq] at hzz
    obtain ⟨hz0, hz1, hz2⟩ := hzz
    have hc6 : c.length ≤ 6 := by omega
    generalize hLe : l.length = L at *
    generalize hCe : c.length = C at *
    generalize hm0 : o.length = m0 at *
    obtain ⟨W1, hW1⟩ : ∃ W1, w.alloc (.cells #[.slice (some ⟨ba, la, none⟩) L lc, .map (some mb)] 63) = W1 := ⟨_, rfl⟩
    have hk1 : Kept w W1 := by rw [← hW1]; exact (Kept.refl _).al _
    have hb1 : W1.heap[w.heap.size]? = some (.cells #[.slice (some ⟨ba, la, none⟩) L lc, .map (some mb)] 63 (0, 0)) := by rw [← hW1]; exact World.alloc_heap_new _ _
    have hx0 : W1.cell? ⟨w.heap.size, 0, none⟩ = some (.slice (some ⟨ba, la, none⟩) L lc) := by simp [World.cell?, hb1]
    have hx1 : W1.cell? ⟨w.heap.size, 1, none⟩ = some (.map (some mb)) := by simp [World.cell?, hb1]
    have hCL : (C : Int) < (L : Int) := by omega
    have hCLe : ((C : Int) == (L : Int)) = false := beq_eq_false_iff_ne.2 (by omega)
    have hcellO : ∀ W, Kept w W → W.cell? ⟨ba, la + C, none⟩ = some (.slice oa m0 oc) := fun W hk => by
      rw [hk.cell (a := ⟨ba, la + C, none⟩) hba, hsame]
      exact hov1
    clear hsame hov1
    generalize hfd : (fun (s : σ) (i : Nat) => wlk l cl fr rf k (c ++ [(i : Int)]) s) = fd at hg
    by_cases hne : c = []
    · rw [if_neg (by simp [hne])] at hg
      have hL : ¬ (0 : Int) < (C : Int) := by rw [hne] at hCe; simp at hCe; omega
      have hxO := hcellO W1 hk1
      go_enter Try.func25, Try.ntmps25
      go_wp2_with fail
      go_loopw [38] (fun i wr => ∃ (j : Nat) (sj : σ), j ≤ m0 ∧ i = .int .i64 j ∧ J sj wr ∧ Kno no W1 wr ∧ ((List.range m0).drop j).foldlM fd sj = some r) (fun i _ => m0 - (intOf i).toNat)
      case atStart => exact ⟨0, s, Nat.zero_le _, rfl, hJ _ _ _ hs hk1, Kno.refl _ _, hg⟩
      case round =>
        obtain ⟨j, sj, hj, rfl, hJs, hkn, hfo⟩ := hrel
        by_cases hjl : j < m0
        · rw [List.drop_eq_getElem_cons (by simpa using hjl), List.foldlM_cons, List.getElem_range] at hfo
          obtain ⟨s1, hs1, hfo2⟩ := Option.bind_eq_some_iff.1 hfo
          rw [← hfd] at hs1
          have hs1 : wlk l cl fr rf k (c ++ [(j : Int)]) sj = some s1 := hs1
          have hj2 : (j : Int) < (m0 : Int) := by omega
          have hkw : Kno no w wr := (hk1.kno no).trans hkn
          have hnb : ∀ b, no b → b < wr.heap.size := fun b hb => Nat.lt_of_lt_of_le (hn b hb) hkw.size
          have hbr : wr.heap[w.heap.size]? = some (.cells #[.slice (some ⟨ba, la, none⟩) L lc, .map (some mb)] 63 (0, 0)) := (hkn.blk _ (heap_lt hb1) (fun q => by have := hn _ q; omega)).trans hb1
          have HS := Lib.hid hs1
          have HF := Lib.hid hfo2
          clear hfo hs1 hfo2
          go_wp2_with fail
          go_region_held_law (fun W => W.cell? ⟨w.heap.size, 0, none⟩ = some (.slice (some ⟨ba, la, none⟩) L lc) ∧ W.cell? ⟨w.heap.size, 1, none⟩ = some (.map (some mb))) (first
            | exact both2 hbr
            | exact both2 ((Below.heap_alloc _ _ _ (heap_lt hbr)).trans hbr)
            | exact both2 hb2
            | exact both2 ((Below.heap_alloc _ _ _ (heap_lt hb2)).trans hb2)
            | exact both2 hb3
            | exact both2 hb4)
            (first
            | (go_at_call 30; refine (clonec _ ?_).mono ?_; exact hkw.trans (((Kept.refl wr).drew).kno no); rintro e w2 ⟨v2, rfl, hk2, hrow2⟩; have hb2 := (hk2.blk _ (heap_lt hbr)).trans hbr)
            | (go_at_call 30; refine (clonec _ ?_).mono ?_; exact hkw.trans ((((Kept.refl wr).al _).drew).kno no); rintro e w2 ⟨v2, rfl, hk2, hrow2⟩; have hb2 := (hk2.blk _ (heap_lt ((Below.heap_alloc wr (.cells #[.int .i64 (j : Int)] 3) _ (heap_lt hbr)).trans hbr))).trans ((Below.heap_alloc wr (.cells #[.int .i64 (j : Int)] 3) _ (heap_lt hbr)).trans hbr))
            | (refine step_append_d rfl _ _ 27 rfl _ 3 i0 (.int .i64 0) 1 8 Try.underlying27 hi hz0 hz1 hz2 rfl (by decide) v2 C (c.map (Value.int .i64)) (by rfl) (hrow2.alloc _) ⟨w2.heap.size, 0, none⟩ 1 1 [.int .i64 (j : Int)] (by rfl) rfl (new1 _ _ _) (by intro u hu; simp at hu; subst hu; rfl) (by simp only [maxLen]; omega) (by omega) (by have := hk2.size; have e9 : wr.drew.heap.size = wr.heap.size := rfl; simp; omega) ?_; intro v3 w3 hown3 hgrow3 hdr3; have hk3 : Kept wr w3 := kept_grown (((Kept.refl wr).drew).trans hk2) hgrow3 (own_ge hrow2) hdr3; have hb3 := (hk3.blk _ (heap_lt hbr)).trans hbr; have hbase : wr.heap.size ≤ wr.drew.heap.size := Nat.le_refl _)
            | (refine step_append_d rfl _ _ 27 rfl _ 3 i0 (.int .i64 0) 1 8 Try.underlying27 hi hz0 hz1 hz2 rfl (by decide) v2 C (c.map (Value.int .i64)) (by rfl) hrow2 ⟨wr.heap.size, 0, none⟩ 1 1 [.int .i64 (j : Int)] (by rfl) rfl (new1k hk2) (by intro u hu; simp at hu; subst hu; rfl) (by simp only [maxLen]; omega) (by omega) hk2.size ?_; intro v3 w3 hown3 hgrow3 hdr3; have hk3 : Kept wr w3 := kept_grown0 ((((Kept.refl wr).al _).drew).trans hk2) hgrow3 (fun b hb => Nat.le_trans (Nat.le_of_lt (by simp [World.drew])) (own_ge hrow2 b hb)) hdr3; have hb3 := (hk3.blk _ (heap_lt hbr)).trans hbr; have hbase : wr.heap.size ≤ ((wr.alloc (.cells #[.int .i64 (j : Int)] 3)).drew).heap.size := Nat.le_of_lt (by simp [World.drew]))
            | (go_at_call 25; refine (rec_ j sj s1 v3 w3 hjl (hkw.trans (hk3.kno no)) (row_rel (fun b hb => Nat.lt_of_lt_of_le (hnb b hb) hbase) (snoc_row hCe hown3)) (hJ _ _ _ hJs hk3) HS.out).mono ?_; rintro e9 w4 ⟨rfl, hJ4, hk4⟩; have hb4 := (hk4.blk _ (heap_lt hb3) (fun q => by have := hn _ q; omega)).trans hb3))
          all_goals
            go_wp2_with fail
            refine ⟨⟨j + 1, s1, hjl, by rw [show (j : Int) + 1 = ((j + 1 : Nat) : Int) by omega], hJ4, (hkn.trans (hk3.kno no)).trans hk4, HF.out⟩, by simp [intOf]; omega⟩
        · obtain rfl : j = m0 := by omega
          have hjl' : ¬ (j : Int) < (j : Int) := by omega
          have e : sj = r := by
            rw [List.drop_eq_nil_of_le (by simp)] at hfo
            exact Option.some.inj hfo
          have hfin := (hk1.kno no).trans hkn
          subst e
          go_wp2_with fail
          go_end0
          exact ⟨rfl, hJs, hfin⟩
    · have hL : (0 : Int) < (C : Int) := by have : 0 < c.length := List.length_pos_iff.2 hne; omega
      go_enter Try.func25, Try.ntmps25
      go_wp2_with fail
      refine (withc W1 hk1 hne).mono ?_
      rintro e w2 ⟨rfl, hk12, hk2w⟩
      by_cases hw : 0 ≤ withF cl c
      · rw [if_pos ⟨hne, hw⟩] at hg
        go_wp2_with fail
        refine (refu w2 hk2w _ hg).mono ?_
        rintro e w3 ⟨⟨u, rfl⟩, h1, h2⟩
        go_wp2_with fail
        refine bodyPost_ret (results_none rfl _ _ _) rfl ?_
        exact ⟨rfl, h1, h2⟩
      · rw [if_neg (fun h => hw h.2)] at hg
        have hx2 : w2.cell? ⟨w.heap.size, 0, none⟩ = some (.slice (some ⟨ba, la, none⟩) L lc) := (hk12.cell (a := ⟨w.heap.size, 0, none⟩) (heap_lt hb1)).trans hx0
        have hxO := hcellO w2 hk2w
        go_wp2_with fail
        go_loopw [38] (fun i wr => ∃ (j : Nat) (sj : σ), j ≤ m0 ∧ i = .int .i64 j ∧ J sj wr ∧ Kno no W1 wr ∧ ((List.range m0).drop j).foldlM fd sj = some r) (fun i _ => m0 - (intOf i).toNat)
        case atStart => exact ⟨0, s, Nat.zero_le _, rfl, hJ _ _ _ hs hk2w, hk12.kno no, hg⟩
        case round =>
          obtain ⟨j, sj, hj, rfl, hJs, hkn, hfo⟩ := hrel
          by_cases hjl : j < m0
          · rw [List.drop_eq_getElem_cons (by simpa using hjl), List.foldlM_cons, List.getElem_range] at hfo
            obtain ⟨s1, hs1, hfo2⟩ := Option.bind_eq_some_iff.1 hfo
            rw [← hfd] at hs1
            have hs1 : wlk l cl fr rf k (c ++ [(j : Int)]) sj = some s1 := hs1
            have hj2 : (j : Int) < (m0 : Int) := by omega
            have hkw : Kno no w wr := (hk1.kno no).trans hkn
            have hnb : ∀ b, no b → b < wr.heap.size := fun b hb => Nat.lt_of_lt_of_le (hn b hb) hkw.size
            have hbr : wr.heap[w.heap.size]? = some (.cells #[.slice (some ⟨ba, la, none⟩) L lc, .map (some mb)] 63 (0, 0)) := (hkn.blk _ (heap_lt hb1) (fun q => by have := hn _ q; omega)).trans hb1
            have HS := Lib.hid hs1
            have HF := Lib.hid hfo2
            clear hfo hs1 hfo2
            go_wp2_with fail
            go_region_held_law (fun W => W.cell? ⟨w.heap.size, 0, none⟩ = some (.slice (some ⟨ba, la, none⟩) L lc) ∧ W.cell? ⟨w.heap.size, 1, none⟩ = some (.map (some mb))) (first
              | exact both2 hbr
              | exact both2 ((Below.heap_alloc _ _ _ (heap_lt hbr)).trans hbr)
              | exact both2 hb2
              | exact both2 ((Below.heap_alloc _ _ _ (heap_lt hb2)).trans hb2)
              | exact both2 hb3
              | exact both2 hb4)
              (first
              | (go_at_call 30; refine (clonec _ ?_).mono ?_; exact hkw.trans (((Kept.refl wr).drew).kno no); rintro e w2 ⟨v2, rfl, hk2, hrow2⟩; have hb2 := (hk2.blk _ (heap_lt hbr)).trans hbr)
              | (go_at_call 30; refine (clonec _ ?_).mono ?_; exact hkw.trans ((((Kept.refl wr).al _).drew).kno no); rintro e w2 ⟨v2, rfl, hk2, hrow2⟩; have hb2 := (hk2.blk _ (heap_lt ((Below.heap_alloc wr (.cells #[.int .i64 (j : Int)] 3) _ (heap_lt hbr)).trans hbr))).trans ((Below.heap_alloc wr (.cells #[.int .i64 (j : Int)] 3) _ (heap_lt hbr)).trans hbr))
              | (refine step_append_d rfl _ _ 27 rfl _ 3 i0 (.int .i64 0) 1 8 Try.underlying27 hi hz0 hz1 hz2 rfl (by decide) v2 C (c.map (Value.int .i64)) (by rfl) (hrow2.alloc _) ⟨w2.heap.size, 0, none⟩ 1 1 [.int .i64 (j : Int)] (by rfl) rfl (new1 _ _ _) (by intro u hu; simp at hu; subst hu; rfl) (by simp only [maxLen]; omega) (by omega) (by have := hk2.size; have e9 : wr.drew.heap.size = wr.heap.size := rfl; simp; omega) ?_; intro v3 w3 hown3 hgrow3 hdr3; have hk3 : Kept wr w3 := kept_grown (((Kept.refl wr).drew).trans hk2) hgrow3 (own_ge hrow2) hdr3; have hb3 := (hk3.blk _ (heap_lt hbr)).trans hbr; have hbase : wr.heap.size ≤ wr.drew.heap.size := Nat.le_refl _)
              | (refine step_append_d rfl _ _ 27 rfl _ 3 i0 (.int .i64 0) 1 8 Try.underlying27 hi hz0 hz1 hz2 rfl (by decide) v2 C (c.map (Value.int .i64)) (by rfl) hrow2 ⟨wr.heap.size, 0, none⟩ 1 1 [.int .i64 (j : Int)] (by rfl) rfl (new1k hk2) (by intro u hu; simp at hu; subst hu; rfl) (by simp only [maxLen]; omega) (by omega) hk2.size ?_; intro v3 w3 hown3 hgrow3 hdr3; have hk3 : Kept wr w3 := kept_grown0 ((((Kept.refl wr).al _).drew).trans hk2) hgrow3 (fun b hb => Nat.le_trans (Nat.le_of_lt (by simp [World.drew])) (own_ge hrow2 b hb)) hdr3; have hb3 := (hk3.blk _ (heap_lt hbr)).trans hbr; have hbase : wr.heap.size ≤ ((wr.alloc (.cells #[.int .i64 (j : Int)] 3)).drew).heap.size := Nat.le_of_lt (by simp [World.drew]))
              | (go_at_call 25; refine (rec_ j sj s1 v3 w3 hjl (hkw.trans (hk3.kno no)) (row_rel (fun b hb => Nat.lt_of_lt_of_le (hnb b hb) hbase) (snoc_row hCe hown3)) (hJ _ _ _ hJs hk3) HS.out).mono ?_; rintro e9 w4 ⟨rfl, hJ4, hk4⟩; have hb4 := (hk4.blk _ (heap_lt hb3) (fun q => by have := hn _ q; omega)).trans hb3))
            all_goals
              go_wp2_with fail
              refine ⟨⟨j + 1, s1, hjl, by rw [show (j : Int) + 1 = ((j + 1 : Nat) : Int) by omega], hJ4, (hkn.trans (hk3.kno no)).trans hk4, HF.out⟩, by simp [intOf]; omega⟩
          · obtain rfl : j = m0 := by omega
            have hjl' : ¬ (j : Int) < (j : Int) := by omega
            have e : sj = r := by
              rw [List.drop_eq_nil_of_le (by simp)] at hfo
              exact Option.some.inj hfo
            have hfin := (hk1.kno no).trans hkn
            subst e
            go_wp2_with fail
            go_end0
            exact ⟨rfl, hJs, hfin⟩
end Go.Proofs.Ytlgbioidkbeanaa
