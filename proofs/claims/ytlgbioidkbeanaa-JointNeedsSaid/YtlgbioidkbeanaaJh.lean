/- joint.Refuted: the walk. -/
import Derived.Test.YtlgbioidkbeanaaJg
import Derived.Test.YtlgbioidkbeanaaJc
set_option linter.unusedVariables false
set_option linter.unusedSimpArgs false
namespace Go.Proofs.Ytlgbioidkbeanaa
open Go.RowKit Go.Shelf

theorem int_rels {c : Cx} : ∀ r : List Int, Rels c (encs intE r) (r.map (Value.int .i64))
  | [] => .nil
  | x :: r => by rw [encs_cons]; exact .cons (.sc _ rfl) (int_rels r)
theorem take_rel {c : Cx} {o : List Int} {a : Option Addr} {n cap : Nat} (h : VRel c (lstA intE o) (.slice a n cap)) {k : Nat} (hk : k ≤ o.length) : VRel c (lstA intE (o.take k)) (.slice a k cap) := by
  have hlk : (o.take k).length = k := by simp; omega
  unfold lstA at h ⊢
  rw [hlk]
  generalize hcs : encs intE o = cs at h
  generalize hq : o.length = q at h
  cases h with
  | lst0 a cap ex he hm hn =>
    obtain rfl := List.eq_nil_of_length_eq_zero hq
    simp only [List.length_nil] at hk
    obtain rfl : k = 0 := by omega
    exact .lst0 _ _ _ he hm hn
  | lst hb h hc hn he hm =>
    subst hcs
    have hv := encs_int h
    subst hv
    refine .lst hb (int_rels (o.take k)) (fun j u hu => hc j u ?_) (by omega) (fun h => by cases h) hm
    rw [List.map_take] at hu
    rw [List.getElem?_take] at hu
    split at hu
    · exact hu
    · cases hu
theorem cap_ge {α : Type} {E : En α} {c : Cx} {o : List α} {a : Option Addr} {n cap : Nat} (h : VRel c (lstA E o) (.slice a n cap)) : n ≤ cap ∧ cap ≤ maxLen ∧ (a = none → cap = 0) := by
  unfold lstA at h
  generalize encs E o = cs at h
  generalize hq : o.length = q at h
  cases h with
  | lst0 a cap ex he hm hn => exact ⟨Nat.zero_le _, hm, hn⟩
  | lst hb h hc hn he hm => exact ⟨hn, hm, fun h => by cases h⟩
theorem good_len {l : List (List TJointOption)} {cl : Nat → Nat → Nat → Nat → Bool} {r : TJointRefuted} (h : goodF l cl r = true) : 2 ≤ r.Choice.length ∧ r.Choice.length ≤ l.length := by
  refine Decidable.byContradiction fun q => ?_
  rw [good_no (by rintro ⟨a, b, -⟩; exact q ⟨a, b⟩)] at h
  cases h
structure SgR : Prop where
  C : ∀ (n : Nat) (a b : List Int) t, g32 n a b = some t → Says Try.prog KK.gl 32 [lstA intE a, lstA intE b] (intA t)
  E : ∀ a b : List Int, a.length ≤ 6 → Says Try.prog KK.gl 22 [lstA intE a, lstA intE b] (boolA (decide (a = b)))
theorem ref_cells {no : Nat → Prop} {w : World} {o : List TJointRefuted} {a : Option Addr} {L c : Nat} (h : VRel (cxA no w) (lstA TJointRefuted.E o) (.slice a L c)) (m : Nat) (x : TJointRefuted) (hi : o[m]? = some x) :
    ∃ bo oo, a = some ⟨bo, oo, none⟩ ∧ bo < w.heap.size ∧ w.cell? ⟨bo, oo + m * 2 + 1, none⟩ = some (.int .i64 x.With) ∧ ∃ ca cc, w.cell? ⟨bo, oo + m * 2, none⟩ = some (.slice ca x.Choice.length cc) ∧ VRel (cxA no w) (lstA intE x.Choice) (.slice ca x.Choice.length cc) := by
  obtain ⟨ba, la, lc, e, hba, -, hlc⟩ := lst_openV h (by rintro rfl; simp at hi)
  cases e
  obtain ⟨y, h1, h2⟩ := hlc m x hi 1 (intA x.With) (by decide) rfl
  obtain ⟨tv, h3, h4⟩ := hlc m x hi 0 (lstA intE x.Choice) (by decide) rfl
  obtain rfl := int_of2 h2
  obtain ⟨ca, cc, rfl⟩ := slice_len h4
  exact ⟨_, _, rfl, hba, h1, ca, cc, h3, h4⟩
def prevC (all : List TJointRefuted) : Nat → Option (List Int)
  | 0 => none
  | j + 1 => (all[j]?).map fun r => r.Choice
set_option maxRecDepth 100000 in
set_option maxHeartbeats 16000000 in
theorem refuted_calls (G : SgJ) (R : SgR) {w : World} {n : Nat} {l : List (List TJointOption)} {s : TSep} {all : List TJointRefuted} {r : Int} (h : g11 n l s all = some r) {lv av : Value} (hl : VRel (cxA (fun _ => False) w) (lstA (lstE TJointOption.E) l) lv) (ha : VRel (cxA (fun _ => False) w) (lstA TJointRefuted.E all) av) :
    Calls Try.prog 11 #[lv, .agg #[.int .i64 s.Lateral, .int .i64 s.Vertical], av] w fun e w' => e = .returned (.int .i64 r) ∧ Kept w w' := by
  have hl0 := hl
  obtain ⟨la, lc, rfl⟩ := slice_lenE hl
  obtain ⟨aa, ac, rfl⟩ := slice_lenE ha
  obtain ⟨V0, hV0⟩ : ∃ V0, w.alloc (.cells #[.int .i64 s.Lateral, .int .i64 s.Vertical] 24) = V0 := ⟨_, rfl⟩
  have hK0 : Kept w V0 := by rw [← hV0]; exact (Kept.refl _).al _
  have hs0 : V0.heap.size = w.heap.size + 1 := by rw [← hV0]; simp
  have b2 : V0.heap[w.heap.size]? = some (.cells #[.int .i64 s.Lateral, .int .i64 s.Vertical] 24 (0, 0)) := by rw [← hV0]; exact World.alloc_heap_new _ _
  have hl1 := (hK0.kno (fun _ => False)).rel hl (lstA_clean _ _)
  obtain ⟨c2, c3⟩ := both2 b2
  unfold g11 at h
  obtain ⟨e1, h1, h⟩ := Option.bind_eq_some_iff.1 h
  by_cases he1 : e1 = 0
  case neg =>
    rw [bne_iff_ne.2 he1, cond_true] at h
    have hre := Option.some.inj h
    subst hre
    have hc := of_err hl1 (s := s) (e1 := e1) (e2 := 1) (G.S _ _ _ h1) (fun h => absurd h he1) (fun h => absurd h he1)
    rw [if_neg he1] at hc
    have hb : (e1 != 0) = true := bne_iff_ne.2 he1
    generalize l.length = L at *
    generalize all.length = A at *
    clear h1 hl hl0 hl1 he1 ha
    go_enter Try.func11, Try.ntmps11
    go_wp2_with fail
    refine hc.mono ?_
    rintro e w1 ⟨rfl, hk1⟩
    go_wp2_with fail
    refine bodyPost_ret (results_tmp rfl _ _ _) rfl ?_
    exact ⟨rfl, (hK0.trans hk1).al _⟩
  subst he1
  rw [show ((0 : Int) != 0) = false from rfl, cond_false] at h
  obtain ⟨e2, h2, h⟩ := Option.bind_eq_some_iff.1 h
  by_cases he2 : e2 = 0
  case neg =>
    rw [bne_iff_ne.2 he2, cond_true] at h
    have hre := Option.some.inj h
    subst hre
    have hc := of_err hl1 (s := s) (e1 := 0) (e2 := e2) (G.S _ _ _ h1) (fun _ => G.C _ _ _ h2) (fun _ => he2)
    rw [if_pos rfl] at hc
    have hb : (e2 != 0) = true := bne_iff_ne.2 he2
    generalize l.length = L at *
    generalize all.length = A at *
    clear h1 h2 hl hl0 hl1 he2 ha
    go_enter Try.func11, Try.ntmps11
    go_wp2_with fail
    refine hc.mono ?_
    rintro e w1 ⟨rfl, hk1⟩
    go_wp2_with fail
    refine bodyPost_ret (results_tmp rfl _ _ _) rfl ?_
    exact ⟨rfl, (hK0.trans hk1).al _⟩
  subst he2
  rw [show ((0 : Int) != 0) = false from rfl, cond_false] at h
  cases hcf : (clAll n l s && fewL l) with
  | false => rw [hcf] at h; cases h
  | true =>
  rw [hcf, cond_true] at h
  obtain ⟨hca, hfew⟩ := Bool.and_eq_true_iff.1 hcf
  obtain ⟨hl6, hl8⟩ := few_of hfew
  have hc := of_ok hl1 (G.F n s) (G.S _ _ _ h1) (G.C _ _ _ h2) hca hfew
  have HH := Lib.hid h
  have HL8 := Lib.hid hl8
  have HL0 := Lib.hid hl0
  have HA0 := Lib.hid ha
  have hcap := cap_ge hl0
  have RC := Lib.hid (opts_cells hl0)
  have RA := Lib.hid (ref_cells ha)
  clear h1 h2 hcf hca hfew h hl8 hl hl0 hl1 ha
  generalize hL : l.length = L at *
  generalize hA : all.length = A at *
  go_enter Try.func11, Try.ntmps11
  go_wp2_with fail
  refine hc.mono ?_
  rintro e w1 ⟨mb, rfl, hk1, hmb, hmp⟩
  clear hV0 hc c2 c3
  obtain ⟨V3, hV3⟩ : ∃ V3, w1.alloc (.cells #[.slice la L lc, .map (some mb)] 63) = V3 := ⟨_, rfl⟩
  have hK3 : Kept w1 V3 := by rw [← hV3]; exact (Kept.refl _).al _
  have hs3 : V3.heap.size = w1.heap.size + 1 := by rw [← hV3]; simp
  have hKw : Kept w V3 := (hK0.trans hk1).trans hK3
  have d2 : V3.heap[w1.heap.size]? = some (.cells #[.slice la L lc, .map (some mb)] 63 (0, 0)) := by
    rw [← hV3]
    exact World.alloc_heap_new _ _
  by_cases h5 : 5000 < A
  · have d5 : (5000 : Int) < (A : Int) := by omega
    have hh := HH.out
    rw [if_pos h5] at hh
    cases hh
    clear h5
    go_wp2_with fail
    refine bodyPost_ret (results_tmp rfl _ _ _) rfl ?_
    exact ⟨rfl, hKw⟩
  have d5 : ¬ (5000 : Int) < (A : Int) := by omega
  have hh : rfdT n l (clF n l s) none all (manyT 1 l) = some r := by
    have hh := HH.out
    rwa [if_neg h5] at hh
  clear HH
  rw [← hL] at hmp
  obtain ⟨nm, f, hMp, hf⟩ := hmp.end_
  have HM := Lib.hid (hMp.kept hK3)
  have HF := Lib.hid hf
  have HH := Lib.hid hh
  clear hMp hf hmp hh
  go_wp2_with fail
  go_loopw [9, 34] (fun t i wr => ∃ (j : Nat) (z : Int), j ≤ L ∧ i = .int .i64 j ∧ t = .int .i64 z ∧ manyT z (l.drop j) = manyT 1 l ∧ wr = V3) (fun _ i => fun _ => L - (intOf i).toNat)
  case atStart => exact ⟨0, 1, Nat.zero_le _, rfl, rfl, rfl, rfl⟩
  case round =>
    obtain ⟨j, z, hj, rfl, rfl, hm, rfl⟩ := hrel
    by_cases hjl : j < L
    · have hjl2 : (j : Int) < (L : Int) := by omega
      obtain ⟨o, ho⟩ : ∃ o, l[j]? = some o := ⟨_, List.getElem?_eq_getElem (by omega)⟩
      obtain ⟨ba, off, hla, hba, oa, oc, ho1, -⟩ := RC.out j o ho
      have c1 : wr.cell? ⟨ba, off + j, none⟩ = some (.slice oa o.length oc) := (hKw.cell hba).trans ho1
      subst hla
      have hd : l.drop j = o :: l.drop (j + 1) := by
        rw [List.drop_eq_getElem_cons (by omega)]
        rw [List.getElem?_eq_getElem (by omega)] at ho
        rw [Option.some.inj ho]
      rw [hd] at hm
      simp only [manyT, IntWalk.i64_left] at hm
      have HM2 := Lib.hid hm
      clear hm hd ho
      go_wp2_with fail
      exact ⟨⟨j + 1, _, hjl, by rw [show (j : Int) + 1 = ((j + 1 : Nat) : Int) by omega], rfl, HM2.out, trivial⟩, by simp [intOf] <;> omega⟩
    · obtain rfl : L = j := by omega
      have hjn : ¬ (L : Int) < (L : Int) := by omega
      have hz : z = manyT 1 l := by
        rw [List.drop_eq_nil_of_le (by omega)] at hm
        exact hm
      subst hz
      clear hm
      generalize hz : manyT 1 l = z0 at *
      generalize wr = V4 at *
      go_wp2_with fail
      go_loopw [9, 45] (fun t i wr => ∃ (q : Nat) (z : Int), q ≤ A ∧ i = .int .i64 q ∧ t = .int .i64 z ∧ rfdT n l (clF n l s) (prevC all q) (all.drop q) z = some r ∧ Kept V4 wr) (fun _ i => fun _ => A - (intOf i).toNat)
      case atStart => exact ⟨0, z0, Nat.zero_le _, rfl, rfl, HH.out, Kept.refl _⟩
      case round =>
        clear HH
        obtain ⟨q, z, hq, rfl, rfl, hr, hk⟩ := hrel
        generalize wr = V5 at *
        by_cases hql : q < A
        · have hql2 : (q : Int) < (A : Int) := by omega
          obtain ⟨x, hx⟩ : ∃ x, all[q]? = some x := ⟨_, List.getElem?_eq_getElem (by omega)⟩
          have hd : all.drop q = x :: all.drop (q + 1) := by
            rw [List.drop_eq_getElem_cons (by omega)]
            rw [List.getElem?_eq_getElem (by omega)] at hx
            rw [Option.some.inj hx]
          rw [hd] at hr
          obtain ⟨xb, xo, haa, hxb, hx1, ca, cc, hx2, hxr⟩ := RA.out q x hx
          have hk5 : Kept w V5 := hKw.trans hk
          have c1 : V5.cell? ⟨xb, xo + q * 2, none⟩ = some (.slice ca x.Choice.length cc) := (hk5.cell hxb).trans hx2
          have c2 : V5.cell? ⟨xb, xo + q * 2 + 1, none⟩ = some (.int .i64 x.With) := (hk5.cell hxb).trans hx1
          subst haa
          have hx3 : prevC all (q + 1) = some x.Choice := by simp [prevC, hx]
          obtain ⟨V6, hV6⟩ : ∃ W, V5.alloc (.cells #[.slice ca x.Choice.length cc, .int .i64 x.With] 49) = W := ⟨_, rfl⟩
          have hk56 : Kept V5 V6 := by rw [← hV6]; exact (Kept.refl _).al _
          have hk6 := hk5.trans hk56
          obtain ⟨c3, c4⟩ := both2 ((hk.trans hk56).blk _ (heap_lt d2) |>.trans d2)
          have b6 : V6.heap[V5.heap.size]? = some (.cells #[.slice ca x.Choice.length cc, .int .i64 x.With] 49 (0, 0)) := by rw [← hV6]; exact World.alloc_heap_new _ _
          obtain ⟨c5, c6⟩ := both2 b6
          have hgood := good_calls ((hk6.kno (fun _ => False)).rel HL0.out (lstA_clean _ _)) (by omega) HL8.out (HM.out.kept (hk.trans hk56)) HF.out ((hk6.kno (fun _ => False)).rel hxr (lstA_clean _ _))
          have HR := Lib.hid hr
          have HXR := Lib.hid hxr
          have HP := Lib.hid hx3
          clear hr hxr hx3 hd hx
          go_wp2_with fail
          refine hgood.mono ?_
          rintro e w7 ⟨rfl, hk7⟩
          have hk57 := hk56.trans hk7
          have hk67 := hk6.trans hk7
          clear hgood hV6 c1 c2 c3 c4 c5 c6
          have b7 := (hk7.blk _ (heap_lt b6)).trans b6
          obtain ⟨c5, c6⟩ := both2 b7
          cases hg : goodF l (clF n l s) x with
          | false =>
            have hr := HR.out
            unfold rfdT at hr
            rw [if_pos hg] at hr
            cases hr
            go_wp2_with fail
            refine bodyPost_ret (results_tmp rfl _ _ _) rfl ?_
            exact ⟨rfl, hk67⟩
          | true =>
            have hr := HR.out
            unfold rfdT at hr
            rw [if_neg (by rw [hg]; exact Bool.noConfusion)] at hr
            have hlen := good_len hg
            clear HR hg
            by_cases hq0 : q = 0
            · have hx4 := HP.out
              have hp : prevC all q = none := by rw [hq0]; rfl
              rw [hp] at hr
              have hr2 : rfdT n l (clF n l s) (some x.Choice) (all.drop (q + 1)) (IntKind.wrap .i64 (z - manyT 1 (l.drop x.Choice.length))) = some r := hr
              have hq1 : ¬ (0 : Int) < (q : Int) := by omega
              clear hq0 hp
              obtain ⟨o0, ho0⟩ : ∃ o, l[0]? = some o := ⟨_, List.getElem?_eq_getElem (by omega)⟩
              obtain ⟨ba, off, hla, hba, -⟩ := RC.out 0 o0 ho0
              subst hla
              obtain ⟨M0, hM0⟩ : ∃ M, manyT 1 (l.drop x.Choice.length) = M := ⟨_, rfl⟩
              rw [hM0] at hr2
              have HR2 := Lib.hid hr2
              have HP2 := Lib.hid hx4
              obtain ⟨N, hN⟩ : ∃ N, x.Choice.length = N := ⟨_, rfl⟩
              rw [hN] at hM0 hlen c5
              try rw [hN] at hle2
              have HM0 := Lib.hid hM0
              have HX0 := Lib.hid hN
              have hNL : (N : Int) ≤ (L : Int) := by omega
              have hLc : (L : Int) ≤ (lc : Int) := by omega
              clear hr hr2 hM0 hN hx4 ho0
              by_cases hcN : lc = N
              · obtain rfl : L = N := by omega
                go_wp2_with fail
                go_loopw [15, 90] (fun t i wr => ∃ (u : Nat) (y : Int), u ≤ L - L ∧ i = .int .i64 u ∧ t = .int .i64 y ∧ manyT y (l.drop (L + u)) = M0 ∧ wr = w7) (fun _ i => fun _ => L - L - (intOf i).toNat)
                case atStart => exact ⟨0, 1, Nat.zero_le _, rfl, rfl, HM0.out, rfl⟩
                case round =>
                  clear c5 c6
                  obtain ⟨u, y, hu, rfl, rfl, hm, hwr⟩ := hrel
                  subst hwr
                  by_cases hul : u < L - L
                  · exact absurd hul (by omega)
                  · obtain rfl : u = L - L := by omega
                    have hun : ¬ ((L - L : Nat) : Int) < ((L - L : Nat) : Int) := by omega
                    have hy : y = M0 := by
                      rw [List.drop_eq_nil_of_le (by omega)] at hm
                      exact hm
                    subst hy
                    have hr3 := HR2.out
                    simp only [IntWalk.i64_left] at hr3
                    have HR3 := Lib.hid hr3
                    clear hm hr3
                    go_wp2_with fail
                    first | (refine ⟨⟨q + 1, _, hql, by rw [show (q : Int) + 1 = ((q + 1 : Nat) : Int) by omega], rfl, ?_, hk.trans hk57⟩, by simp [intOf] <;> omega⟩) | (refine ⟨⟨_, _, _, _, _, _, _, _, ⟨q + 1, hql, ?_, RowKit.wrap64 (z - y), ?_, ?_, hk.trans hk57⟩, rfl, rfl, rfl, rfl, rfl, rfl, rfl, rfl⟩, by simp [intOf] <;> omega⟩; exact congrArg _ (by omega); rfl)
                    rw [HP2.out]
                    exact HR3.out
              · go_wp2_with fail
                go_loopw [15, 90] (fun t i wr => ∃ (u : Nat) (y : Int), u ≤ L - N ∧ i = .int .i64 u ∧ t = .int .i64 y ∧ manyT y (l.drop (N + u)) = M0 ∧ wr = w7) (fun _ i => fun _ => L - N - (intOf i).toNat)
                case atStart => exact ⟨0, 1, Nat.zero_le _, rfl, rfl, HM0.out, rfl⟩
                case round =>
                  clear c5 c6
                  obtain ⟨u, y, hu, rfl, rfl, hm, hwr⟩ := hrel
                  subst hwr
                  by_cases hul : u < L - N
                  · have hul2 : (u : Int) < ((L - N : Nat) : Int) := by omega
                    obtain ⟨o, ho⟩ : ∃ o, l[N + u]? = some o := ⟨_, List.getElem?_eq_getElem (by omega)⟩
                    obtain ⟨ba', off', hla', -, oa, oc, ho1, -⟩ := RC.out (N + u) o ho
                    cases hla'
                    have c7 : wr.cell? ⟨ba, off + N + u, none⟩ = some (.slice oa o.length oc) := by
                      rw [Nat.add_assoc]
                      exact (hk67.cell hba).trans ho1
                    have hdd : l.drop (N + u) = o :: l.drop (N + (u + 1)) := by
                      rw [List.drop_eq_getElem_cons (by omega)]
                      rw [List.getElem?_eq_getElem (by omega)] at ho
                      rw [Option.some.inj ho]
                      rfl
                    rw [hdd] at hm
                    simp only [manyT, IntWalk.i64_left] at hm
                    have HM2 := Lib.hid hm
                    clear hm hdd ho
                    go_wp2_with fail
                    exact ⟨⟨u + 1, _, hul, by rw [show (u : Int) + 1 = ((u + 1 : Nat) : Int) by omega], rfl, HM2.out, trivial⟩, by simp [intOf] <;> omega⟩
                  · obtain rfl : u = L - N := by omega
                    have hun : ¬ ((L - N : Nat) : Int) < ((L - N : Nat) : Int) := by omega
                    have hy : y = M0 := by
                      rw [List.drop_eq_nil_of_le (by omega)] at hm
                      exact hm
                    subst hy
                    have hr3 := HR2.out
                    simp only [IntWalk.i64_left] at hr3
                    have HR3 := Lib.hid hr3
                    clear hm hr3
                    go_wp2_with fail
                    first | (refine ⟨⟨q + 1, _, hql, by rw [show (q : Int) + 1 = ((q + 1 : Nat) : Int) by omega], rfl, ?_, hk.trans hk57⟩, by simp [intOf] <;> omega⟩) | (refine ⟨⟨_, _, _, _, _, _, _, _, ⟨q + 1, hql, ?_, RowKit.wrap64 (z - y), ?_, ?_, hk.trans hk57⟩, rfl, rfl, rfl, rfl, rfl, rfl, rfl, rfl⟩, by simp [intOf] <;> omega⟩; exact congrArg _ (by omega); rfl)
                    rw [HP2.out]
                    exact HR3.out
            · have hx4 := HP.out
              obtain ⟨p, hp⟩ : ∃ p, q = p + 1 := ⟨q - 1, by omega⟩
              obtain ⟨y, hy⟩ : ∃ y, all[p]? = some y := ⟨_, List.getElem?_eq_getElem (by omega)⟩
              have hpv : prevC all q = some y.Choice := by rw [hp]; simp [prevC, hy]
              rw [hpv] at hr
              obtain ⟨bad, hbad0, hr2⟩ := Option.bind_eq_some_iff.1 hr
              obtain ⟨d, hd, hbad⟩ := Option.map_eq_some_iff.1 hbad0
              obtain ⟨yb, yo, haa', hyb, hy1, pa, pc, hy2, hyr⟩ := RA.out p y hy
              cases haa'
              have c7 : w7.cell? ⟨xb, xo + p * 2, none⟩ = some (.slice pa y.Choice.length pc) := (hk67.cell (a := ⟨xb, xo + p * 2, none⟩) hxb).trans hy2
              have hq1 : (0 : Int) < (q : Int) := by omega
              have e1 : IntKind.i64.wrap ((q : Int) - 1) = (p : Int) := by rw [wrap64 (by omega) (by omega)]; omega
              have hpA : (p : Int) < (A : Int) := by omega
              have hcmp := says_kK (R.C _ _ _ _ hd) (w := w) (.cons hyr (.cons HXR.out .nil)) w7 hk67
              have HRB := Lib.hid hr2
              have HBD := Lib.hid hbad
              have HX4 := Lib.hid hx4
              clear hq0 hpv hp hr hbad0 hr2 hd hy hbad hx4
              go_wp2_with fail
              refine hcmp.mono ?_
              rintro e w8 ⟨v8, rfl, hk8, hv8⟩
              obtain rfl := int_of2 hv8
              have hk68 := hk67.trans hk8
              have hk58 := hk57.trans hk8
              have b8 := (hk8.blk _ (heap_lt b7)).trans b7
              clear hcmp hv8 c5 c6 c7 e1
              obtain ⟨c5, c6⟩ := both2 b8
              by_cases hd0 : 0 ≤ d
              · have hb : bad = true := by rw [← HBD.out]; simp [hd0]
                have hr2 := HRB.out
                rw [hb] at hr2
                clear HRB HBD
                have hr4 : (1 : Int) = r := by simpa using hr2
                subst hr4
                go_wp2_with fail
                refine bodyPost_ret (results_tmp rfl _ _ _) rfl ?_
                exact ⟨rfl, hk68⟩
              have hd1 : ¬ 0 ≤ d := hd0
              by_cases hle : y.Choice.length ≤ x.Choice.length
              · have hle2 : (y.Choice.length : Int) ≤ (x.Choice.length : Int) := by omega
                have hxc := (cap_ge HXR.out).1
                have hxc2 : (y.Choice.length : Int) ≤ (cc : Int) := by omega
                have heq := says_kK (R.E y.Choice (x.Choice.take y.Choice.length) (by have := hlen.2; omega)) (w := w) (.cons hyr (.cons (take_rel HXR.out hle) .nil)) w8 hk68
                clear hd0
                go_wp2_with fail
                refine heq.mono ?_
                rintro e w9 ⟨v9, rfl, hk9, hv9⟩
                obtain rfl := bool_of hv9
                have hk69 := hk68.trans hk9
                have hk59 := hk58.trans hk9
                have b9 := (hk9.blk _ (heap_lt b8)).trans b8
                clear heq hv9 c5 c6
                obtain ⟨c5, c6⟩ := both2 b9
                cases hee : decide (y.Choice = x.Choice.take y.Choice.length) with
                | true =>
                  have hb : bad = true := by rw [← HBD.out, hee]; simp [hle]
                  have hr2 := HRB.out
                  rw [hb] at hr2
                  clear HRB HBD hee
                  have hr4 : (1 : Int) = r := by simpa using hr2
                  subst hr4
                  go_wp2_with fail
                  refine bodyPost_ret (results_tmp rfl _ _ _) rfl ?_
                  exact ⟨rfl, hk69⟩
                | false =>
                  have hb : bad = false := by rw [← HBD.out, hee]; simp [hd1]
                  have hr2 := HRB.out
                  rw [hb] at hr2
                  have hr2 : rfdT n l (clF n l s) (some x.Choice) (all.drop (q + 1)) (IntKind.wrap .i64 (z - manyT 1 (l.drop x.Choice.length))) = some r := hr2
                  have hx4 := HX4.out
                  have hr := hr2
                  clear HRB HBD hee hb
                  obtain ⟨o0, ho0⟩ : ∃ o, l[0]? = some o := ⟨_, List.getElem?_eq_getElem (by omega)⟩
                  obtain ⟨ba, off, hla, hba, -⟩ := RC.out 0 o0 ho0
                  subst hla
                  obtain ⟨M0, hM0⟩ : ∃ M, manyT 1 (l.drop x.Choice.length) = M := ⟨_, rfl⟩
                  rw [hM0] at hr2
                  have HR2 := Lib.hid hr2
                  have HP2 := Lib.hid hx4
                  obtain ⟨N, hN⟩ : ∃ N, x.Choice.length = N := ⟨_, rfl⟩
                  rw [hN] at hM0 hlen c5
                  try rw [hN] at hle2
                  have HM0 := Lib.hid hM0
                  have HX0 := Lib.hid hN
                  have hNL : (N : Int) ≤ (L : Int) := by omega
                  have hLc : (L : Int) ≤ (lc : Int) := by omega
                  clear hr hr2 hM0 hN hx4 ho0
                  by_cases hcN : lc = N
                  · obtain rfl : L = N := by omega
                    go_wp2_with fail
                    go_loopw [15, 90] (fun t i wr => ∃ (u : Nat) (y : Int), u ≤ L - L ∧ i = .int .i64 u ∧ t = .int .i64 y ∧ manyT y (l.drop (L + u)) = M0 ∧ wr = w9) (fun _ i => fun _ => L - L - (intOf i).toNat)
                    case atStart => exact ⟨0, 1, Nat.zero_le _, rfl, rfl, HM0.out, rfl⟩
                    case round =>
                      clear c5 c6
                      obtain ⟨u, y, hu, rfl, rfl, hm, hwr⟩ := hrel
                      subst hwr
                      by_cases hul : u < L - L
                      · exact absurd hul (by omega)
                      · obtain rfl : u = L - L := by omega
                        have hun : ¬ ((L - L : Nat) : Int) < ((L - L : Nat) : Int) := by omega
                        have hy : y = M0 := by
                          rw [List.drop_eq_nil_of_le (by omega)] at hm
                          exact hm
                        subst hy
                        have hr3 := HR2.out
                        simp only [IntWalk.i64_left] at hr3
                        have HR3 := Lib.hid hr3
                        clear hm hr3
                        go_wp2_with fail
                        first | (refine ⟨⟨q + 1, _, hql, by rw [show (q : Int) + 1 = ((q + 1 : Nat) : Int) by omega], rfl, ?_, hk.trans hk59⟩, by simp [intOf] <;> omega⟩) | (refine ⟨⟨_, _, _, _, _, _, _, _, ⟨q + 1, hql, ?_, RowKit.wrap64 (z - y), ?_, ?_, hk.trans hk59⟩, rfl, rfl, rfl, rfl, rfl, rfl, rfl, rfl⟩, by simp [intOf] <;> omega⟩; exact congrArg _ (by omega); rfl)
                        rw [HP2.out]
                        exact HR3.out
                  · go_wp2_with fail
                    go_loopw [15, 90] (fun t i wr => ∃ (u : Nat) (y : Int), u ≤ L - N ∧ i = .int .i64 u ∧ t = .int .i64 y ∧ manyT y (l.drop (N + u)) = M0 ∧ wr = w9) (fun _ i => fun _ => L - N - (intOf i).toNat)
                    case atStart => exact ⟨0, 1, Nat.zero_le _, rfl, rfl, HM0.out, rfl⟩
                    case round =>
                      clear c5 c6
                      obtain ⟨u, y, hu, rfl, rfl, hm, hwr⟩ := hrel
                      subst hwr
                      by_cases hul : u < L - N
                      · have hul2 : (u : Int) < ((L - N : Nat) : Int) := by omega
                        obtain ⟨o, ho⟩ : ∃ o, l[N + u]? = some o := ⟨_, List.getElem?_eq_getElem (by omega)⟩
                        obtain ⟨ba', off', hla', -, oa, oc, ho1, -⟩ := RC.out (N + u) o ho
                        cases hla'
                        have c7 : wr.cell? ⟨ba, off + N + u, none⟩ = some (.slice oa o.length oc) := by
                          rw [Nat.add_assoc]
                          exact (hk69.cell hba).trans ho1
                        have hdd : l.drop (N + u) = o :: l.drop (N + (u + 1)) := by
                          rw [List.drop_eq_getElem_cons (by omega)]
                          rw [List.getElem?_eq_getElem (by omega)] at ho
                          rw [Option.some.inj ho]
                          rfl
                        rw [hdd] at hm
                        simp only [manyT, IntWalk.i64_left] at hm
                        have HM2 := Lib.hid hm
                        clear hm hdd ho
                        go_wp2_with fail
                        exact ⟨⟨u + 1, _, hul, by rw [show (u : Int) + 1 = ((u + 1 : Nat) : Int) by omega], rfl, HM2.out, trivial⟩, by simp [intOf] <;> omega⟩
                      · obtain rfl : u = L - N := by omega
                        have hun : ¬ ((L - N : Nat) : Int) < ((L - N : Nat) : Int) := by omega
                        have hy : y = M0 := by
                          rw [List.drop_eq_nil_of_le (by omega)] at hm
                          exact hm
                        subst hy
                        have hr3 := HR2.out
                        simp only [IntWalk.i64_left] at hr3
                        have HR3 := Lib.hid hr3
                        clear hm hr3
                        go_wp2_with fail
                        first | (refine ⟨⟨q + 1, _, hql, by rw [show (q : Int) + 1 = ((q + 1 : Nat) : Int) by omega], rfl, ?_, hk.trans hk59⟩, by simp [intOf] <;> omega⟩) | (refine ⟨⟨_, _, _, _, _, _, _, _, ⟨q + 1, hql, ?_, RowKit.wrap64 (z - y), ?_, ?_, hk.trans hk59⟩, rfl, rfl, rfl, rfl, rfl, rfl, rfl, rfl⟩, by simp [intOf] <;> omega⟩; exact congrArg _ (by omega); rfl)
                        rw [HP2.out]
                        exact HR3.out
              · have hle2 : ¬ (y.Choice.length : Int) ≤ (x.Choice.length : Int) := by omega
                have hb : bad = false := by rw [← HBD.out]; simp [hd1, hle]
                have hr2 := HRB.out
                rw [hb] at hr2
                have hr2 : rfdT n l (clF n l s) (some x.Choice) (all.drop (q + 1)) (IntKind.wrap .i64 (z - manyT 1 (l.drop x.Choice.length))) = some r := hr2
                have hx4 := HX4.out
                have hr := hr2
                clear HRB HBD hb hd0
                obtain ⟨o0, ho0⟩ : ∃ o, l[0]? = some o := ⟨_, List.getElem?_eq_getElem (by omega)⟩
                obtain ⟨ba, off, hla, hba, -⟩ := RC.out 0 o0 ho0
                subst hla
                obtain ⟨M0, hM0⟩ : ∃ M, manyT 1 (l.drop x.Choice.length) = M := ⟨_, rfl⟩
                rw [hM0] at hr2
                have HR2 := Lib.hid hr2
                have HP2 := Lib.hid hx4
                obtain ⟨N, hN⟩ : ∃ N, x.Choice.length = N := ⟨_, rfl⟩
                rw [hN] at hM0 hlen c5
                try rw [hN] at hle2
                have HM0 := Lib.hid hM0
                have HX0 := Lib.hid hN
                have hNL : (N : Int) ≤ (L : Int) := by omega
                have hLc : (L : Int) ≤ (lc : Int) := by omega
                clear hr hr2 hM0 hN hx4 ho0
                by_cases hcN : lc = N
                · obtain rfl : L = N := by omega
                  go_wp2_with fail
                  go_loopw [15, 90] (fun t i wr => ∃ (u : Nat) (y : Int), u ≤ L - L ∧ i = .int .i64 u ∧ t = .int .i64 y ∧ manyT y (l.drop (L + u)) = M0 ∧ wr = w8) (fun _ i => fun _ => L - L - (intOf i).toNat)
                  case atStart => exact ⟨0, 1, Nat.zero_le _, rfl, rfl, HM0.out, rfl⟩
                  case round =>
                    clear c5 c6
                    obtain ⟨u, y, hu, rfl, rfl, hm, hwr⟩ := hrel
                    subst hwr
                    by_cases hul : u < L - L
                    · exact absurd hul (by omega)
                    · obtain rfl : u = L - L := by omega
                      have hun : ¬ ((L - L : Nat) : Int) < ((L - L : Nat) : Int) := by omega
                      have hy : y = M0 := by
                        rw [List.drop_eq_nil_of_le (by omega)] at hm
                        exact hm
                      subst hy
                      have hr3 := HR2.out
                      simp only [IntWalk.i64_left] at hr3
                      have HR3 := Lib.hid hr3
                      clear hm hr3
                      go_wp2_with fail
                      first | (refine ⟨⟨q + 1, _, hql, by rw [show (q : Int) + 1 = ((q + 1 : Nat) : Int) by omega], rfl, ?_, hk.trans hk58⟩, by simp [intOf] <;> omega⟩) | (refine ⟨⟨_, _, _, _, _, _, _, _, ⟨q + 1, hql, ?_, RowKit.wrap64 (z - y), ?_, ?_, hk.trans hk58⟩, rfl, rfl, rfl, rfl, rfl, rfl, rfl, rfl⟩, by simp [intOf] <;> omega⟩; exact congrArg _ (by omega); rfl)
                      rw [HP2.out]
                      exact HR3.out
                · go_wp2_with fail
                  go_loopw [15, 90] (fun t i wr => ∃ (u : Nat) (y : Int), u ≤ L - N ∧ i = .int .i64 u ∧ t = .int .i64 y ∧ manyT y (l.drop (N + u)) = M0 ∧ wr = w8) (fun _ i => fun _ => L - N - (intOf i).toNat)
                  case atStart => exact ⟨0, 1, Nat.zero_le _, rfl, rfl, HM0.out, rfl⟩
                  case round =>
                    clear c5 c6
                    obtain ⟨u, y, hu, rfl, rfl, hm, hwr⟩ := hrel
                    subst hwr
                    by_cases hul : u < L - N
                    · have hul2 : (u : Int) < ((L - N : Nat) : Int) := by omega
                      obtain ⟨o, ho⟩ : ∃ o, l[N + u]? = some o := ⟨_, List.getElem?_eq_getElem (by omega)⟩
                      obtain ⟨ba', off', hla', -, oa, oc, ho1, -⟩ := RC.out (N + u) o ho
                      cases hla'
                      have c7 : wr.cell? ⟨ba, off + N + u, none⟩ = some (.slice oa o.length oc) := by
                        rw [Nat.add_assoc]
                        exact (hk68.cell hba).trans ho1
                      have hdd : l.drop (N + u) = o :: l.drop (N + (u + 1)) := by
                        rw [List.drop_eq_getElem_cons (by omega)]
                        rw [List.getElem?_eq_getElem (by omega)] at ho
                        rw [Option.some.inj ho]
                        rfl
                      rw [hdd] at hm
                      simp only [manyT, IntWalk.i64_left] at hm
                      have HM2 := Lib.hid hm
                      clear hm hdd ho
                      go_wp2_with fail
                      exact ⟨⟨u + 1, _, hul, by rw [show (u : Int) + 1 = ((u + 1 : Nat) : Int) by omega], rfl, HM2.out, trivial⟩, by simp [intOf] <;> omega⟩
                    · obtain rfl : u = L - N := by omega
                      have hun : ¬ ((L - N : Nat) : Int) < ((L - N : Nat) : Int) := by omega
                      have hy : y = M0 := by
                        rw [List.drop_eq_nil_of_le (by omega)] at hm
                        exact hm
                      subst hy
                      have hr3 := HR2.out
                      simp only [IntWalk.i64_left] at hr3
                      have HR3 := Lib.hid hr3
                      clear hm hr3
                      go_wp2_with fail
                      first | (refine ⟨⟨q + 1, _, hql, by rw [show (q : Int) + 1 = ((q + 1 : Nat) : Int) by omega], rfl, ?_, hk.trans hk58⟩, by simp [intOf] <;> omega⟩) | (refine ⟨⟨_, _, _, _, _, _, _, _, ⟨q + 1, hql, ?_, RowKit.wrap64 (z - y), ?_, ?_, hk.trans hk58⟩, rfl, rfl, rfl, rfl, rfl, rfl, rfl, rfl⟩, by simp [intOf] <;> omega⟩; exact congrArg _ (by omega); rfl)
                      rw [HP2.out]
                      exact HR3.out
        · obtain rfl : A = q := by omega
          have hqn : ¬ (A : Int) < (A : Int) := by omega
          rw [List.drop_eq_nil_of_le (by omega)] at hr
          have hr2 : some (if z ≠ 0 then (1 : Int) else 0) = some r := hr
          have hr3 := Option.some.inj hr2
          have hk5 : Kept w V5 := hKw.trans hk
          clear hr hr2
          by_cases hz0 : z = 0
          · have hzb : (z != 0) = false := by simp [hz0]
            rw [if_neg (by simp [hz0])] at hr3
            subst hr3
            clear hz0
            go_wp2_with fail
            refine bodyPost_ret (results_tmp rfl _ _ _) rfl ?_
            exact ⟨rfl, hk5⟩
          · have hzb : (z != 0) = true := bne_iff_ne.2 hz0
            rw [if_pos hz0] at hr3
            subst hr3
            clear hz0
            go_wp2_with fail
            refine bodyPost_ret (results_tmp rfl _ _ _) rfl ?_
            exact ⟨rfl, hk5⟩
end Go.Proofs.Ytlgbioidkbeanaa
