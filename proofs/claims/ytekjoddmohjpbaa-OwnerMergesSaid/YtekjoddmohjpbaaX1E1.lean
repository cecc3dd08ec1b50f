/- Plain functional programs out of the program's functions, with proofs that the functions compute them; printed by wip/Ext.lean.txt. -/
import Derived.Test.YtekjoddmohjpbaaX1G
import Derived.Test.YtekjoddmohjpbaaX1F1
import Derived.Test.YtekjoddmohjpbaaX1S
set_option linter.unusedVariables false
set_option linter.unusedSimpArgs false
set_option maxRecDepth 100000
namespace Go.Proofs.Ytekjoddmohjpbaa
theorem cloneC28 {n : Nat} {look : Nat → Option ABlk} {l : List TOwnerEntry} {u : Unit} (h : roomO l.length 48 = some u) : PureD Try.prog KK.gl look n 28 [lstA TOwnerEntry.E l] (ownV TOwnerEntry.E n l) [(n, ownB TOwnerEntry.E 32 l)] :=
  made_ownC (by simp [cleans, clean, encs_clean]) (F28_own _ _ (by
    unfold F28
    exact clone_ok (E := TOwnerEntry.E) rfl rfl h))
theorem cloneS28 {n : Nat} {look : Nat → Option ABlk} {args : List AV} {l : List TOwnerEntry} {u : Unit} (h : roomO l.length 48 = some u) (hs : SnL look 6 args [lstA TOwnerEntry.E l]) : PureD Try.prog KK.gl look n 28 args (ownV TOwnerEntry.E n l) [(n, ownB TOwnerEntry.E 32 l)] :=
  made_ownS (fun _ => rfl) hs (F28_own _ _ (by
    unfold F28
    exact clone_ok (E := TOwnerEntry.E) rfl rfl h))
theorem gro17 {S : Nat} (h1 : 0 < S) (hr : S * 16 ≤ 140737488355328) (hr2 : S ≤ 4611686018427387904) : F29 AV.nils (S : Int) (MadeSl 0 1 0 S false ⟨rep [(AV.sc (.string ⟨#[]⟩))] S, 9⟩) := by
  unfold F29
  have h0 : decide ((S : Int) < 0) = false := decide_eq_false (by omega)
  rw [h0, cond_false]
  refine opP_of (v := intA 0) (by kernel_rfl) ?_
  refine ex_i64_b ?_
  refine opP_of (v := intA 0) rfl ?_
  refine ex_i64_b ?_
  have w1 : IntKind.wrap .i64 ((0 : Int) - 0) = 0 := by decide
  have w2 : IntKind.wrap .i64 ((S : Int) - IntKind.wrap .i64 ((0 : Int) - 0)) = (S : Int) := by rw [w1, wrap64 (by omega) (by omega)]; omega
  rw [w2]
  have h2 : decide ((S : Int) > 0) = true := decide_eq_true (by omega)
  rw [h2, cond_true]
  refine opP_of (v := intA 0) (by kernel_rfl) ?_
  refine ex_i64_b ?_
  refine opP_of (v := .nils) (by kernel_rfl) ?_
  refine opN_of (v := .sl 18 0 1 S S false) (d := [(18, some ⟨rep [(AV.sc (.string ⟨#[]⟩))] S, 9⟩)]) ?_ ?_
  · exact opA_append.trans <| growA_ok (e := 9) (sz := 1) (by_ := 16) (zs := [(AV.sc (.string ⟨#[]⟩))]) (k := .i64) (by kernel_rfl) (by kernel_rfl) (by kernel_rfl) (by kernel_rfl) (by kernel_rfl) rfl rfl h1 hr hr2
  refine opP_of (v := intA 0) rfl ?_
  refine ex_i64_b ?_
  refine opP_of (v := .sl 18 0 1 0 S false) ?_ ?_
  · exact (opA_slice3 (e := 9) (sz := 1) (yt := 0) (y := .und) (z := .und) (by kernel_rfl) (by kernel_rfl)).2.1.trans (slcS_z h1)
  exact ⟨18, rfl, rfl⟩
theorem gro17z : F29 AV.nils 0 (fun u m => freeze (mget m) 6 u = some .nils) := by
  unfold F29
  have h0 : decide ((0 : Int) < 0) = false := by decide
  rw [h0, cond_false]
  refine opP_of (v := intA 0) (by kernel_rfl) ?_
  refine ex_i64_b ?_
  refine opP_of (v := intA 0) rfl ?_
  refine ex_i64_b ?_
  have h2 : decide (IntKind.wrap .i64 ((0 : Int) - IntKind.wrap .i64 ((0 : Int) - 0)) > 0) = false := by decide
  rw [h2, cond_false]
  exact (rfl : freeze (mget []) 6 AV.nils = some AV.nils)
theorem catF17 {L : List (List ByteArray)} {y : List ByteArray} (h : catO 16 L = some y) : F17 (lstA (lstE strE) L) (MadeO strE 9 y) := by
  obtain ⟨rfl, hL, hr, hr2⟩ := catO_some h
  have hz : ([(AV.sc (.string ⟨#[]⟩))] : List AV).length = strE.size := rfl
  unfold F17
  refine opP_of (v := intA L.length) rfl ?_
  refine ex_i64_b ?_
  have hcl : clean (lstA (lstE strE) L) = true := lstA_clean _ _
  refine L17_0 _ (σ := Nat) (fun k => k ≤ L.length) (fun _ => lstA (lstE strE) L) (fun _ => AV.nils) (fun k => ((L.take k).flatten.length : Int)) (fun _ => lstA (lstE strE) L) (fun _ => (L.length : Int)) (fun k => (k : Int)) (fun _ => []) (fun k => L.length - k) ?_ 0 (Nat.zero_le _)
    (weak_of rfl (okE_cons rfl hcl (okE_cons rfl rfl (okE_cons rfl rfl (okE_cons rfl hcl (okE_cons rfl rfl (okE_cons rfl rfl trivial)))))))
  intro k hk
  show B17_0 (lstA (lstE strE) L) AV.nils ((L.take k).flatten.length : Int) (lstA (lstE strE) L) (L.length : Int) (k : Int) [] _ _
  have hfk := flat_le (L := L) k
  unfold B17_0
  refine cond_of (fun hc => ?_) (fun hc => ?_)
  · have hlt : k < L.length := by have := of_decide_eq_true hc; omega
    have hfk1 := flat_le (L := L) (k + 1)
    have hsn := flat_snoc hlt
    have hln : (L.take (k + 1)).flatten.length = (L.take k).flatten.length + (L[k]).length := by rw [hsn, List.length_append]
    refine opP_of (idxS_lst (E := lstE strE) rfl L false k hlt) ?_
    refine opP_of (ldS_ept (x := lstA strE L[k]) rfl) ?_
    refine opP_of (v := intA (L[k]).length) rfl ?_
    refine ex_i64_b ?_
    have w1 : IntKind.wrap .i64 (((L.take k).flatten.length : Int) + ((L[k]).length : Int)) = ((L.take (k + 1)).flatten.length : Int) := by rw [wrap64 (by omega) (by omega)]; omega
    have w2 : IntKind.wrap .i64 ((k : Int) + 1) = ((k + 1 : Nat) : Int) := by rw [wrap64 (by omega) (by omega)]; omega
    rw [w1, w2]
    refine cond_of (fun hc => by have := of_decide_eq_true hc; omega) (fun _ => ?_)
    exact ⟨k + 1, hlt, by omega, weak_of rfl (okE_cons rfl hcl (okE_cons rfl rfl (okE_cons rfl rfl (okE_cons rfl hcl (okE_cons rfl rfl (okE_cons rfl rfl trivial))))))⟩
  · have hkk : k = L.length := by have := of_decide_eq_false hc; omega
    subst hkk
    rw [List.take_length]
    generalize hS : L.flatten.length = S at *
    have hlenS : lenS (lstA (lstE strE) L) = some (intA L.length, []) := rfl
    by_cases h0 : S = 0
    · subst h0
      have hFl : L.flatten = [] := List.eq_nil_of_length_eq_zero hS
      have hel : ∀ (k : Nat) (h : k < L.length), L[k] = [] := fun k h => by
        have := List.flatten_eq_nil_iff.1 hFl L[k] (List.getElem_mem h); exact this
      refine callW_says (v := .nils) (says_of_same rfl rfl (F29_own _ _ _ gro17z)) ?_
      refine opP_of hlenS ?_
      refine ex_i64_b ?_
      refine L17_1 _ (σ := Nat) (fun k => k ≤ L.length) (fun _ => AV.nils) (fun _ => AV.nils) (fun _ => lstA (lstE strE) L) (fun _ => (L.length : Int)) (fun k => (k : Int)) (fun _ => []) (fun k => L.length - k) ?_ 0 (Nat.zero_le _)
        (weak_of rfl (okE_cons rfl rfl (okE_cons rfl rfl (okE_cons rfl hcl (okE_cons rfl rfl (okE_cons rfl rfl trivial))))))
      intro k hk
      show B17_1 AV.nils AV.nils (lstA (lstE strE) L) (L.length : Int) (k : Int) [] _ _
      unfold B17_1
      refine cond_of (fun hc => ?_) (fun hc => ?_)
      · have hlt : k < L.length := by have := of_decide_eq_true hc; omega
        refine opP_of (idxS_lst (E := lstE strE) rfl L false k hlt) ?_
        refine opP_of (ldS_ept (x := lstA strE L[k]) rfl) ?_
        rw [hel k hlt]
        refine opN_of (app_zeroN (E := strE)) ?_
        have w2 : IntKind.wrap .i64 ((k : Int) + 1) = ((k + 1 : Nat) : Int) := by rw [wrap64 (by omega) (by omega)]; omega
        rw [w2]
        exact ⟨k + 1, hlt, by omega, weak_of rfl (okE_cons rfl rfl (okE_cons rfl rfl (okE_cons rfl hcl (okE_cons rfl rfl (okE_cons rfl rfl trivial)))))⟩
      · rw [hFl]; exact made_nils_pf
    · refine callW_D (made_of_own (n := 100002) (b := ⟨rep [(AV.sc (.string ⟨#[]⟩))] S, 9⟩) rfl (rep_clean rfl S) (F29_own _ _ _ (gro17 (by omega) hr hr2))) ?_
      refine opP_of hlenS ?_
      refine ex_i64_b ?_
      have hbc : ∀ k, cleans (encs strE (L.take k).flatten ++ rep [(AV.sc (.string ⟨#[]⟩))] (S - (L.take k).flatten.length)) = true := fun k => by rw [cleans_append, encs_clean, rep_clean rfl]; rfl
      refine L17_1 _ (σ := Nat) (fun k => k ≤ L.length) (fun _ => AV.nils) (fun k => .sl 90000 0 strE.size (L.take k).flatten.length S false) (fun _ => lstA (lstE strE) L) (fun _ => (L.length : Int)) (fun k => (k : Int)) (fun k => [(90000, some ⟨encs strE (L.take k).flatten ++ rep [(AV.sc (.string ⟨#[]⟩))] (S - (L.take k).flatten.length), 9⟩)]) (fun k => L.length - k) ?_ 0 (Nat.zero_le _)
        (weak_mem [(90000, 100002)] rfl rfl rfl (okW_cons (.inl (leV_refl _)) (okW_cons (.inl (leV_refl _)) (okW_cons (ent_lst _ _) (okW_cons (.inl (leV_refl _)) (okW_cons (.inl (leV_refl _)) okW_nil))))) (okB_cons (okB_cells (hbc 0) rfl) okB_nil'))
      intro k hk
      show B17_1 AV.nils (.sl 90000 0 strE.size (L.take k).flatten.length S false) (lstA (lstE strE) L) (L.length : Int) (k : Int) [(90000, some ⟨encs strE (L.take k).flatten ++ rep [(AV.sc (.string ⟨#[]⟩))] (S - (L.take k).flatten.length), 9⟩)] _ _
      unfold B17_1
      refine cond_of (fun hc => ?_) (fun hc => ?_)
      · have hlt : k < L.length := by have := of_decide_eq_true hc; omega
        have hfk1 := flat_le (L := L) (k + 1)
        have hsn := flat_snoc hlt
        have hln : (L.take (k + 1)).flatten.length = (L.take k).flatten.length + (L[k]).length := by rw [hsn, List.length_append]
        refine opP_of (idxS_lst (E := lstE strE) rfl L false k hlt) ?_
        refine opP_of (ldS_ept (x := lstA strE L[k]) rfl) ?_
        have w2 : IntKind.wrap .i64 ((k : Int) + 1) = ((k + 1 : Nat) : Int) := by rw [wrap64 (by omega) (by omega)]; omega
        rw [w2]
        obtain ⟨d, hd1, hd2⟩ := app_cap (E := strE) (look := mget [(90000, some ⟨encs strE (L.take k).flatten ++ rep [(AV.sc (.string ⟨#[]⟩))] (S - (L.take k).flatten.length), 9⟩)]) (e := 9) (by_ := 16) (n := 200006) (id := 90000) (ty := 9) (S := S) (xs := L[k]) hz rfl (by omega) hr hr2
        refine opN_of hd1 ?_
        have hb : mget (mpushs [(90000, some ⟨encs strE (L.take k).flatten ++ rep [(AV.sc (.string ⟨#[]⟩))] (S - (L.take k).flatten.length), 9⟩)] d) 90000 = some ⟨encs strE (L.take (k + 1)).flatten ++ rep [(AV.sc (.string ⟨#[]⟩))] (S - (L.take (k + 1)).flatten.length), 9⟩ := by
          rcases hd2 with rfl | ⟨rfl, he⟩
          · rw [hsn, List.length_append]; rfl
          · rw [hsn, he, List.append_nil]; rfl
        exact ⟨k + 1, hlt, by omega, weak_mem [(90000, 90000)] rfl rfl rfl (okW_cons (.inl (leV_refl _)) (okW_cons (.inl (by rw [hln]; exact leV_refl _)) (okW_cons (ent_lst _ _) (okW_cons (.inl (leV_refl _)) (okW_cons (.inl (leV_refl _)) okW_nil))))) (okB_cons (okB_cells (hbc (k + 1)) hb) okB_nil')⟩
      · have hkk : k = L.length := by have := of_decide_eq_false hc; omega
        subst hkk
        rw [List.take_length, hS, Nat.sub_self]
        refine .inr ⟨by rintro e; rw [e] at hS; exact h0 hS.symm, 90000, S, false, by rw [hS], ?_⟩
        simp [mget, rep]
theorem catC17 {n : Nat} {look : Nat → Option ABlk} {L : List (List ByteArray)} {y : List ByteArray} (h : catO 16 L = some y) : PureD Try.prog KK.gl look n 17 [lstA (lstE strE) L] (ownV strE n y) [(n, ownB strE 9 y)] := made_ownC (by simp [cleans, clean, encs_clean]) (F17_own _ _ (catF17 h))
/- skyway/skywaykeep3.ownerFact -/
theorem ev6 : evalsTo Try.prog KF 300 6 = some true := by decide +kernel
theorem sg6 {n : Nat} {t : ρ6} (h : g6 n = some t) : Says Try.prog KK.gl 6 [] (boolA t) := by
  cases h
  exact says_of_evals (K := KF) fol (k := 300) ev6
/- skyway/chart.Name -/
theorem B34_0_ok (n : Nat) (c2 : Bool) (c14 : List UInt8) (c15 : Int) (v16 : Int) {t : (Int) ⊕ ρ34} (R : AV → Mem → Prop) (N0 : St → Prop) (hR : ∀ r : ρ34, t = (.inr r) → ∀ u m, Ans ((boolA r)) u m → R u m) (hN0 : ∀ y : Int, t = (.inl y) → ∀ s' : St, Weak KK 41 0 s' (h34_0 c2 (lstA byteE c14) c15 y []) → N0 s') : S34_0 n c2 c14 c15 v16 = some t → B34_0 c2 (lstA byteE c14) c15 v16 [] R N0 := by
  unfold S34_0 B34_0
  refine cond_b (fun _ => ?_) (fun _ => ?_)
  · refine bind_b fun x3 h3 => ?_
    refine imp (opP_of (show _ = some ((AV.ept [(AV.sc (.int .u8 (x3.toNat : Int)))] 0), []) from (idx_lst (E := byteE) rfl h3))) ?_
    refine imp (opP_of (show _ = some ((AV.sc (.int .u8 (x3.toNat : Int))), []) from rfl)) ?_
    refine imp ex_u8_b ?_
    refine cond_b (fun _ => ?_) (fun _ => ?_)
    · refine cond_b (fun _ => ?_) (fun _ => ?_)
      · exact fun hg => hN0 _ (Option.some.inj hg).symm _ (weak_mem [] rfl rfl rfl (okW_cons (.inl (leV_refl _)) (okW_cons (ent_lst (E := byteE) _ false) (okW_cons (.inl (leV_refl _)) (okW_cons (.inl (leV_refl _)) okW_nil)))) okB_nil')
      · refine cond_b (fun _ => ?_) (fun _ => ?_)
        · refine cond_b (fun _ => ?_) (fun _ => ?_)
          · refine cond_b (fun _ => ?_) (fun _ => ?_)
            · exact fun hg => ret1 (hR _ (Option.some.inj hg).symm) (fz_sc _ _)
            · exact fun hg => hN0 _ (Option.some.inj hg).symm _ (weak_mem [] rfl rfl rfl (okW_cons (.inl (leV_refl _)) (okW_cons (ent_lst (E := byteE) _ false) (okW_cons (.inl (leV_refl _)) (okW_cons (.inl (leV_refl _)) okW_nil)))) okB_nil')
          · exact fun hg => ret1 (hR _ (Option.some.inj hg).symm) (fz_sc _ _)
        · exact fun hg => ret1 (hR _ (Option.some.inj hg).symm) (fz_sc _ _)
    · refine cond_b (fun _ => ?_) (fun _ => ?_)
      · refine cond_b (fun _ => ?_) (fun _ => ?_)
        · refine cond_b (fun _ => ?_) (fun _ => ?_)
          · exact fun hg => ret1 (hR _ (Option.some.inj hg).symm) (fz_sc _ _)
          · exact fun hg => hN0 _ (Option.some.inj hg).symm _ (weak_mem [] rfl rfl rfl (okW_cons (.inl (leV_refl _)) (okW_cons (ent_lst (E := byteE) _ false) (okW_cons (.inl (leV_refl _)) (okW_cons (.inl (leV_refl _)) okW_nil)))) okB_nil')
        · exact fun hg => ret1 (hR _ (Option.some.inj hg).symm) (fz_sc _ _)
      · exact fun hg => ret1 (hR _ (Option.some.inj hg).symm) (fz_sc _ _)
  · exact fun hg => ret1 (hR _ (Option.some.inj hg).symm) (fz_sc _ _)
theorem L34_0_ok (n : Nat) (c2 : Bool) (c14 : List UInt8) (c15 : Int) {t : ρ34} (R : AV → Mem → Prop) (hR : ∀ r : ρ34, t = r → ∀ u m, Ans ((boolA r)) u m → R u m) (k : Nat) (x : Int) (hx : iterO (fun y : Int => S34_0 n c2 c14 c15 y) k x = some t) {s : St} (hw : Weak KK 41 0 s (h34_0 c2 (lstA byteE c14) c15 x [])) : Tri Try.prog KK 41 0 (.loop c34_0) s (q34_0 R ) :=
  L34_0 R  (σ := Nat × (Int)) (fun z => iterO (fun y : Int => S34_0 n c2 c14 c15 y) z.1 z.2 = some t) (fun z => c2) (fun z => (lstA byteE c14)) (fun z => c15) (fun z => z.2) (fun z => []) (fun z => z.1) (by
    rintro ⟨k, y⟩ h
    cases k with
    | zero => exact (iterO_zero h).elim
    | succ k =>
      obtain ⟨u, h1, h2, h3⟩ := iterO_elim h
      exact B34_0_ok n c2 c14 c15 y R  _ (fun r e => hR r (h3 _ e).symm)  (fun y' e s' hw => ⟨(k, y'), h2 _ e, Nat.lt_succ_self k, hw⟩) h1) (k, x) hx hw
theorem g34_ok (n : Nat) (a0 : ByteArray) {t : ρ34} (R : AV → Mem → Prop) (hR : ∀ r : ρ34, t = r → ∀ u m, Ans ((boolA r)) u m → R u m) : g34 n a0 = some t → F34 a0 R := by
  unfold g34 F34
  refine imp (opP_of (show _ = some ((intA (a0.size : Int)), []) from (by kernel_rfl))) ?_
  refine imp ex_i64_b ?_
  refine cond_b (fun _ => ?_) (fun _ => ?_)
  · exact fun hg => ret1 (hR _ (Option.some.inj hg).symm) (fz_sc _ _)
  · refine imp (opP_of (show _ = some ((intA (a0.size : Int)), []) from (by kernel_rfl))) ?_
    refine imp ex_i64_b ?_
    refine cond_b (fun _ => ?_) (fun _ => ?_)
    · exact fun hg => ret1 (hR _ (Option.some.inj hg).symm) (fz_sc _ _)
    · refine bind_b fun x2 h2 => ?_
      refine imp (opP_of (show _ = some ((lstA byteE (a0.data.toList)), []) from (opA_bytes (e := 5) (by kernel_rfl) (by kernel_rfl) (by kernel_rfl) h2))) ?_
      refine imp (opP_of (show _ = some ((intA ((a0.data.toList).length : Int)), []) from rfl)) ?_
      refine imp ex_i64_b ?_
      exact fun hg => L34_0_ok n false (a0.data.toList) ((a0.data.toList).length : Int) R  hR n _ hg (weak_mem [] rfl rfl rfl (okW_cons (.inl (leV_refl _)) (okW_cons (ent_lst (E := byteE) _ false) (okW_cons (.inl (leV_refl _)) (okW_cons (.inl (leV_refl _)) okW_nil)))) okB_nil')
theorem sg34 {n : Nat} {a0 : ByteArray} {t : ρ34} (h : g34 n a0 = some t) : Says Try.prog KK.gl 34 [(strA a0)] ((boolA t)) :=
  says_of_own (by first | rfl | simp [cleans, clean, encs_clean, En.cln]) (by first | rfl | simp [cleans, clean, encs_clean, En.cln]) (F34_own a0 _ (g34_ok n a0 (Ans ((boolA t))) (fun r e u m h => by rw [e]; exact h) h))
/- skyway/owner.Name -/
theorem g21_ok (n : Nat) (a0 : ByteArray) {t : ρ21} (R : AV → Mem → Prop) (hR : ∀ r : ρ21, t = r → ∀ u m, Ans ((boolA r)) u m → R u m) : g21 n a0 = some t → F21 a0 R := by
  unfold g21 F21
  refine bind_b fun x4 h4 => ?_
  refine imp (callQ_says (sg34 h4)) ?_
  refine imp exB_b ?_
  exact fun hg => ret1 (hR _ (Option.some.inj hg).symm) (fz_sc _ _)
theorem sg21 {n : Nat} {a0 : ByteArray} {t : ρ21} (h : g21 n a0 = some t) : Says Try.prog KK.gl 21 [(strA a0)] ((boolA t)) :=
  says_of_own (by first | rfl | simp [cleans, clean, encs_clean, En.cln]) (by first | rfl | simp [cleans, clean, encs_clean, En.cln]) (F21_own a0 _ (g21_ok n a0 (Ans ((boolA t))) (fun r e u m h => by rw [e]; exact h) h))
/- skyway/owner.Check -/
theorem B12_0_ok (n : Nat) (a0 : List TOwnerEntry) (c2 : Int) (c9 : Int) (v10 : Int) {t : (Int) ⊕ ρ12} (R : AV → Mem → Prop) (N0 : St → Prop) (hR : ∀ r : ρ12, t = (.inr r) → ∀ u m, Ans ((intA r)) u m → R u m) (hN0 : ∀ y : Int, t = (.inl y) → ∀ s' : St, Weak KK 58 0 s' (h12_0 (lstA TOwnerEntry.E a0) c2 (lstA TOwnerEntry.E a0) c9 y []) → N0 s') : S12_0 n a0 c2 c9 v10 = some t → B12_0 (lstA TOwnerEntry.E a0) c2 (lstA TOwnerEntry.E a0) c9 v10 [] R N0 := by
  unfold S12_0 B12_0
  refine cond_b (fun _ => ?_) (fun _ => ?_)
  · refine bind_b fun x1 h1 => ?_
    refine imp (opP_of (show _ = some ((AV.ept [(strA x1.Call), (strA x1.Owner), (strA x1.Offered)] 0), []) from (idx_lst (E := TOwnerEntry.E) rfl h1))) ?_
    refine imp (opP_of (show _ = some ((AV.agg [(strA x1.Call), (strA x1.Owner), (strA x1.Offered)]), []) from rfl)) ?_
    refine imp exA3_b ?_
    refine imp exStr_b ?_
    refine imp exStr_b ?_
    refine imp exStr_b ?_
    refine bind_b fun x5 h5 => ?_
    refine imp (callQ_says (sg21 h5)) ?_
    refine imp exB_b ?_
    refine cond_b (fun _ => ?_) (fun _ => ?_)
    · exact fun hg => ret1 (hR _ (Option.some.inj hg).symm) (fz_sc _ _)
    · refine bind_b fun x6 h6 => ?_
      refine imp (callQ_says (sg21 h6)) ?_
      refine imp exB_b ?_
      refine cond_b (fun _ => ?_) (fun _ => ?_)
      · exact fun hg => ret1 (hR _ (Option.some.inj hg).symm) (fz_sc _ _)
      · refine cond_b (fun _ => ?_) (fun _ => ?_)
        · refine bind_b fun x7 h7 => ?_
          refine imp (callQ_says (sg21 h7)) ?_
          refine imp exB_b ?_
          refine cond_b (fun _ => ?_) (fun _ => ?_)
          · exact fun hg => ret1 (hR _ (Option.some.inj hg).symm) (fz_sc _ _)
          · refine cond_b (fun _ => ?_) (fun _ => ?_)
            · exact fun hg => ret1 (hR _ (Option.some.inj hg).symm) (fz_sc _ _)
            · refine cond_b (fun _ => ?_) (fun _ => ?_)
              · refine bind_b fun x8 h8 => ?_
                refine imp (opP_of (show _ = some ((AV.ept [(strA x8.Call), (strA x8.Owner), (strA x8.Offered)] 0), []) from (idx_lst (E := TOwnerEntry.E) rfl h8))) ?_
                refine imp (opP_of (show _ = some ((AV.ept [(strA x8.Call), (strA x8.Owner), (strA x8.Offered)] 0), []) from rfl)) ?_
                refine imp (opP_of (show _ = some ((strA x8.Call), []) from rfl)) ?_
                refine imp exStr_b ?_
                refine cond_b (fun _ => ?_) (fun _ => ?_)
                · exact fun hg => ret1 (hR _ (Option.some.inj hg).symm) (fz_sc _ _)
                · exact fun hg => hN0 _ (Option.some.inj hg).symm _ (weak_mem [] rfl rfl rfl (okW_cons (ent_lst (E := TOwnerEntry.E) _ false) (okW_cons (.inl (leV_refl _)) (okW_cons (ent_lst (E := TOwnerEntry.E) _ false) (okW_cons (.inl (leV_refl _)) (okW_cons (.inl (leV_refl _)) okW_nil))))) okB_nil')
              · exact fun hg => hN0 _ (Option.some.inj hg).symm _ (weak_mem [] rfl rfl rfl (okW_cons (ent_lst (E := TOwnerEntry.E) _ false) (okW_cons (.inl (leV_refl _)) (okW_cons (ent_lst (E := TOwnerEntry.E) _ false) (okW_cons (.inl (leV_refl _)) (okW_cons (.inl (leV_refl _)) okW_nil))))) okB_nil')
        · refine cond_b (fun _ => ?_) (fun _ => ?_)
          · exact fun hg => ret1 (hR _ (Option.some.inj hg).symm) (fz_sc _ _)
          · refine cond_b (fun _ => ?_) (fun _ => ?_)
            · refine bind_b fun x9 h9 => ?_
              refine imp (opP_of (show _ = some ((AV.ept [(strA x9.Call), (strA x9.Owner), (strA x9.Offered)] 0), []) from (idx_lst (E := TOwnerEntry.E) rfl h9))) ?_
              refine imp (opP_of (show _ = some ((AV.ept [(strA x9.Call), (strA x9.Owner), (strA x9.Offered)] 0), []) from rfl)) ?_
              refine imp (opP_of (show _ = some ((strA x9.Call), []) from rfl)) ?_
              refine imp exStr_b ?_
              refine cond_b (fun _ => ?_) (fun _ => ?_)
              · exact fun hg => ret1 (hR _ (Option.some.inj hg).symm) (fz_sc _ _)
              · exact fun hg => hN0 _ (Option.some.inj hg).symm _ (weak_mem [] rfl rfl rfl (okW_cons (ent_lst (E := TOwnerEntry.E) _ false) (okW_cons (.inl (leV_refl _)) (okW_cons (ent_lst (E := TOwnerEntry.E) _ false) (okW_cons (.inl (leV_refl _)) (okW_cons (.inl (leV_refl _)) okW_nil))))) okB_nil')
            · exact fun hg => hN0 _ (Option.some.inj hg).symm _ (weak_mem [] rfl rfl rfl (okW_cons (ent_lst (E := TOwnerEntry.E) _ false) (okW_cons (.inl (leV_refl _)) (okW_cons (ent_lst (E := TOwnerEntry.E) _ false) (okW_cons (.inl (leV_refl _)) (okW_cons (.inl (leV_refl _)) okW_nil))))) okB_nil')
  · exact fun hg => ret1 (hR _ (Option.some.inj hg).symm) (fz_sc _ _)
theorem L12_0_ok (n : Nat) (a0 : List TOwnerEntry) (c2 : Int) (c9 : Int) {t : ρ12} (R : AV → Mem → Prop) (hR : ∀ r : ρ12, t = r → ∀ u m, Ans ((intA r)) u m → R u m) (k : Nat) (x : Int) (hx : iterO (fun y : Int => S12_0 n a0 c2 c9 y) k x = some t) {s : St} (hw : Weak KK 58 0 s (h12_0 (lstA TOwnerEntry.E a0) c2 (lstA TOwnerEntry.E a0) c9 x [])) : Tri Try.prog KK 58 0 (.loop c12_0) s (q12_0 R ) :=
  L12_0 R  (σ := Nat × (Int)) (fun z => iterO (fun y : Int => S12_0 n a0 c2 c9 y) z.1 z.2 = some t) (fun z => (lstA TOwnerEntry.E a0)) (fun z => c2) (fun z => (lstA TOwnerEntry.E a0)) (fun z => c9) (fun z => z.2) (fun z => []) (fun z => z.1) (by
    rintro ⟨k, y⟩ h
    cases k with
    | zero => exact (iterO_zero h).elim
    | succ k =>
      obtain ⟨u, h1, h2, h3⟩ := iterO_elim h
      exact B12_0_ok n a0 c2 c9 y R  _ (fun r e => hR r (h3 _ e).symm)  (fun y' e s' hw => ⟨(k, y'), h2 _ e, Nat.lt_succ_self k, hw⟩) h1) (k, x) hx hw
theorem g12_ok (n : Nat) (a0 : List TOwnerEntry) {t : ρ12} (R : AV → Mem → Prop) (hR : ∀ r : ρ12, t = r → ∀ u m, Ans ((intA r)) u m → R u m) : g12 n a0 = some t → F12 (lstA TOwnerEntry.E a0) R := by
  unfold g12 F12
  refine imp (opP_of (show _ = some ((intA (a0.length : Int)), []) from rfl)) ?_
  refine imp ex_i64_b ?_
  refine cond_b (fun _ => ?_) (fun _ => ?_)
  · exact fun hg => ret1 (hR _ (Option.some.inj hg).symm) (fz_sc _ _)
  · refine imp (opP_of (show _ = some ((intA (a0.length : Int)), []) from rfl)) ?_
    refine imp ex_i64_b ?_
    exact fun hg => L12_0_ok n a0 (0) (a0.length : Int) R  hR n _ hg (weak_mem [] rfl rfl rfl (okW_cons (ent_lst (E := TOwnerEntry.E) _ false) (okW_cons (.inl (leV_refl _)) (okW_cons (ent_lst (E := TOwnerEntry.E) _ false) (okW_cons (.inl (leV_refl _)) (okW_cons (.inl (leV_refl _)) okW_nil))))) okB_nil')
theorem sg12 {n : Nat} {a0 : List TOwnerEntry} {t : ρ12} (h : g12 n a0 = some t) : Says Try.prog KK.gl 12 [(lstA TOwnerEntry.E a0)] ((intA t)) :=
  says_of_own (by first | rfl | simp [cleans, clean, encs_clean, En.cln]) (by first | rfl | simp [cleans, clean, encs_clean, En.cln]) (F12_own (lstA TOwnerEntry.E a0) _ (g12_ok n a0 (Ans ((intA t))) (fun r e u m h => by rw [e]; exact h) h))
/- skyway/owner.Move -/
theorem B15_0_ok (n : Nat) (a1 : ByteArray) (a2 : ByteArray) (c7 : Int) (c28 : Int) (v29 : Int) (L90000 : List TOwnerEntry) {t : (Int × List TOwnerEntry) ⊕ ρ15} (R : AV → Mem → Prop) (N0 : St → Prop) (hR : ∀ r : ρ15, t = (.inr r) → ∀ u m, Ans ((AV.tup [(lstA TOwnerEntry.E r.1), (intA r.2)])) u m → R u m) (hN0 : ∀ y : Int × List TOwnerEntry, t = (.inl y) → ∀ s' : St, Weak KK 69 0 s' (h15_0 a1 a2 AV.nils c7 (ownV TOwnerEntry.E 90000 y.2) c28 y.1 [(90000, ownB TOwnerEntry.E 32 y.2)]) → N0 s') : S15_0 n a1 a2 c7 c28 v29 L90000 = some t → B15_0 a1 a2 AV.nils c7 (ownV TOwnerEntry.E 90000 L90000) c28 v29 [(90000, ownB TOwnerEntry.E 32 L90000)] R N0 := by
  unfold S15_0 B15_0
  refine cond_b (fun _ => ?_) (fun _ => ?_)
  · refine bind_b fun x14 h14 => ?_
    refine imp (opP_of (show _ = some ((AV.ptr 90000 (((v29 : Int).toNat) * 3 + 0)), []) from (idx_own (E := TOwnerEntry.E) rfl h14))) ?_
    refine imp (opP_of (show _ = some ((AV.ptr 90000 (((v29 : Int).toNat) * 3 + 0)), []) from rfl)) ?_
    refine imp (opP_of (show _ = some ((AV.ptr 90000 (((v29 : Int).toNat) * 3 + 1)), []) from rfl)) ?_
    refine imp (opP_of (show _ = some ((strA x14.Owner), []) from (ldS_blk (E := TOwnerEntry.E) (l := L90000) (ty := 32) (o := 1) (own_some (ty := 32) (by first | rfl | (simp (disch := first | decide | assumption) only [mpushs_nil, mpushs_cons, mget_hd, mget_tl, mget_appW_o, mget_appW_n, mget_appW_e])) (getI_some h14).2) (getI_some h14).2 rfl (by decide) rfl))) ?_
    refine imp exStr_b ?_
    refine cond_b (fun _ => ?_) (fun _ => ?_)
    · refine imp (opP_of (show _ = some ((AV.ptr 90000 (((v29 : Int).toNat) * 3 + 0)), []) from rfl)) ?_
      refine imp (opP_of (show _ = some ((AV.ptr 90000 (((v29 : Int).toNat) * 3 + 1)), []) from rfl)) ?_
      refine imp (storeW_elO (E := TOwnerEntry.E) (l := L90000) (i := ((v29 : Int).toNat)) (o := 1) (y := (⟨x14.Call, a2, x14.Offered⟩ : TOwnerEntry)) (ty := 32) (by kernel_rfl) (by kernel_rfl) rfl (by first | rfl | (simp (disch := first | decide | assumption) only [mpushs_nil, mpushs_cons, mget_hd, mget_tl, mget_appW_o, mget_appW_n, mget_appW_e])) (getI_some h14).2 rfl (by decide) rfl) ?_
      refine imp (opP_of (show _ = some ((AV.ptr 90000 (((v29 : Int).toNat) * 3 + 0)), []) from rfl)) ?_
      refine imp (opP_of (show _ = some ((AV.ptr 90000 (((v29 : Int).toNat) * 3 + 2)), []) from rfl)) ?_
      refine imp (opP_of (show _ = some ((strA (⟨x14.Call, a2, x14.Offered⟩ : TOwnerEntry).Offered), []) from (ldS_blk (E := TOwnerEntry.E) (l := (L90000.set ((v29 : Int).toNat) (⟨x14.Call, a2, x14.Offered⟩ : TOwnerEntry))) (ty := 32) (o := 2) (own_some (ty := 32) (by first | rfl | (simp (disch := first | decide | assumption) only [mpushs_nil, mpushs_cons, mget_hd, mget_tl, mget_appW_o, mget_appW_n, mget_appW_e])) (set_get (getI_some h14).2)) (set_get (getI_some h14).2) rfl (by decide) rfl))) ?_
      refine imp exStr_b ?_
      refine cond_b (fun _ => ?_) (fun _ => ?_)
      · refine imp (opP_of (show _ = some ((AV.ptr 90000 (((v29 : Int).toNat) * 3 + 0)), []) from rfl)) ?_
        refine imp (opP_of (show _ = some ((AV.ptr 90000 (((v29 : Int).toNat) * 3 + 2)), []) from rfl)) ?_
        refine imp (storeW_elO (E := TOwnerEntry.E) (l := (L90000.set ((v29 : Int).toNat) (⟨x14.Call, a2, x14.Offered⟩ : TOwnerEntry))) (i := ((v29 : Int).toNat)) (o := 2) (y := (⟨(⟨x14.Call, a2, x14.Offered⟩ : TOwnerEntry).Call, (⟨x14.Call, a2, x14.Offered⟩ : TOwnerEntry).Owner, a2⟩ : TOwnerEntry)) (ty := 32) (by kernel_rfl) (by kernel_rfl) rfl (by first | rfl | (simp (disch := first | decide | assumption) only [mpushs_nil, mpushs_cons, mget_hd, mget_tl, mget_appW_o, mget_appW_n, mget_appW_e])) (set_get (getI_some h14).2) rfl (by decide) rfl) ?_
        refine imp (opP_of (show _ = some ((AV.ptr 90000 (((v29 : Int).toNat) * 3 + 0)), []) from rfl)) ?_
        refine imp (opP_of (show _ = some ((AV.ptr 90000 (((v29 : Int).toNat) * 3 + 2)), []) from rfl)) ?_
        refine imp (opP_of (show _ = some ((strA (⟨(⟨x14.Call, a2, x14.Offered⟩ : TOwnerEntry).Call, (⟨x14.Call, a2, x14.Offered⟩ : TOwnerEntry).Owner, a2⟩ : TOwnerEntry).Offered), []) from (ldS_blk (E := TOwnerEntry.E) (l := ((L90000.set ((v29 : Int).toNat) (⟨x14.Call, a2, x14.Offered⟩ : TOwnerEntry)).set ((v29 : Int).toNat) (⟨(⟨x14.Call, a2, x14.Offered⟩ : TOwnerEntry).Call, (⟨x14.Call, a2, x14.Offered⟩ : TOwnerEntry).Owner, a2⟩ : TOwnerEntry))) (ty := 32) (o := 2) (own_some (ty := 32) (by first | rfl | (simp (disch := first | decide | assumption) only [mpushs_nil, mpushs_cons, mget_hd, mget_tl, mget_appW_o, mget_appW_n, mget_appW_e])) (set_get (set_get (getI_some h14).2))) (set_get (set_get (getI_some h14).2)) rfl (by decide) rfl))) ?_
        refine imp exStr_b ?_
        refine imp (opP_of (show _ = some ((AV.ptr 90000 (((v29 : Int).toNat) * 3 + 0)), []) from rfl)) ?_
        refine imp (opP_of (show _ = some ((AV.ptr 90000 (((v29 : Int).toNat) * 3 + 1)), []) from rfl)) ?_
        refine imp (opP_of (show _ = some ((strA (⟨(⟨x14.Call, a2, x14.Offered⟩ : TOwnerEntry).Call, (⟨x14.Call, a2, x14.Offered⟩ : TOwnerEntry).Owner, a2⟩ : TOwnerEntry).Owner), []) from (ldS_blk (E := TOwnerEntry.E) (l := ((L90000.set ((v29 : Int).toNat) (⟨x14.Call, a2, x14.Offered⟩ : TOwnerEntry)).set ((v29 : Int).toNat) (⟨(⟨x14.Call, a2, x14.Offered⟩ : TOwnerEntry).Call, (⟨x14.Call, a2, x14.Offered⟩ : TOwnerEntry).Owner, a2⟩ : TOwnerEntry))) (ty := 32) (o := 1) (own_some (ty := 32) (by first | rfl | (simp (disch := first | decide | assumption) only [mpushs_nil, mpushs_cons, mget_hd, mget_tl, mget_appW_o, mget_appW_n, mget_appW_e])) (set_get (set_get (getI_some h14).2))) (set_get (set_get (getI_some h14).2)) rfl (by decide) rfl))) ?_
        refine imp exStr_b ?_
        refine cond_b (fun _ => ?_) (fun _ => ?_)
        · refine imp (opP_of (show _ = some ((AV.ptr 90000 (((v29 : Int).toNat) * 3 + 0)), []) from rfl)) ?_
          refine imp (opP_of (show _ = some ((AV.ptr 90000 (((v29 : Int).toNat) * 3 + 2)), []) from rfl)) ?_
          refine imp (storeW_elO (E := TOwnerEntry.E) (l := ((L90000.set ((v29 : Int).toNat) (⟨x14.Call, a2, x14.Offered⟩ : TOwnerEntry)).set ((v29 : Int).toNat) (⟨(⟨x14.Call, a2, x14.Offered⟩ : TOwnerEntry).Call, (⟨x14.Call, a2, x14.Offered⟩ : TOwnerEntry).Owner, a2⟩ : TOwnerEntry))) (i := ((v29 : Int).toNat)) (o := 2) (y := (⟨(⟨(⟨x14.Call, a2, x14.Offered⟩ : TOwnerEntry).Call, (⟨x14.Call, a2, x14.Offered⟩ : TOwnerEntry).Owner, a2⟩ : TOwnerEntry).Call, (⟨(⟨x14.Call, a2, x14.Offered⟩ : TOwnerEntry).Call, (⟨x14.Call, a2, x14.Offered⟩ : TOwnerEntry).Owner, a2⟩ : TOwnerEntry).Owner, (⟨#[]⟩ : ByteArray)⟩ : TOwnerEntry)) (ty := 32) (by kernel_rfl) (by kernel_rfl) rfl (by first | rfl | (simp (disch := first | decide | assumption) only [mpushs_nil, mpushs_cons, mget_hd, mget_tl, mget_appW_o, mget_appW_n, mget_appW_e])) (set_get (set_get (getI_some h14).2)) rfl (by decide) rfl) ?_
          exact fun hg => hN0 _ (Option.some.inj hg).symm _ (weak_mem [(90000, 90000)] rfl rfl rfl (okW_cons (.inl (leV_refl _)) (okW_cons (.inl (leV_refl _)) (okW_cons (.inl (leV_refl _)) (okW_cons (.inl (leV_refl _)) (okW_cons (ent_own (E := TOwnerEntry.E) (id := 90000) (l' := (((L90000.set ((v29 : Int).toNat) (⟨x14.Call, a2, x14.Offered⟩ : TOwnerEntry)).set ((v29 : Int).toNat) (⟨(⟨x14.Call, a2, x14.Offered⟩ : TOwnerEntry).Call, (⟨x14.Call, a2, x14.Offered⟩ : TOwnerEntry).Owner, a2⟩ : TOwnerEntry)).set ((v29 : Int).toNat) (⟨(⟨(⟨x14.Call, a2, x14.Offered⟩ : TOwnerEntry).Call, (⟨x14.Call, a2, x14.Offered⟩ : TOwnerEntry).Owner, a2⟩ : TOwnerEntry).Call, (⟨(⟨x14.Call, a2, x14.Offered⟩ : TOwnerEntry).Call, (⟨x14.Call, a2, x14.Offered⟩ : TOwnerEntry).Owner, a2⟩ : TOwnerEntry).Owner, (⟨#[]⟩ : ByteArray)⟩ : TOwnerEntry))) (by first | rfl | omega | (simp; done) | (simp; omega)) rfl) (okW_cons (.inl (leV_refl _)) (okW_cons (.inl (leV_refl _)) okW_nil))))))) (okB_cons (okB_own (E := TOwnerEntry.E) (ty := 32) (l' := (((L90000.set ((v29 : Int).toNat) (⟨x14.Call, a2, x14.Offered⟩ : TOwnerEntry)).set ((v29 : Int).toNat) (⟨(⟨x14.Call, a2, x14.Offered⟩ : TOwnerEntry).Call, (⟨x14.Call, a2, x14.Offered⟩ : TOwnerEntry).Owner, a2⟩ : TOwnerEntry)).set ((v29 : Int).toNat) (⟨(⟨(⟨x14.Call, a2, x14.Offered⟩ : TOwnerEntry).Call, (⟨x14.Call, a2, x14.Offered⟩ : TOwnerEntry).Owner, a2⟩ : TOwnerEntry).Call, (⟨(⟨x14.Call, a2, x14.Offered⟩ : TOwnerEntry).Call, (⟨x14.Call, a2, x14.Offered⟩ : TOwnerEntry).Owner, a2⟩ : TOwnerEntry).Owner, (⟨#[]⟩ : ByteArray)⟩ : TOwnerEntry))) rfl (show mget _ 90000 = _ from (by first | rfl | (simp (disch := first | decide | assumption) only [mpushs_nil, mpushs_cons, mget_hd, mget_tl, mget_appW_o, mget_appW_n, mget_appW_e])))) okB_nil'))
        · exact fun hg => hN0 _ (Option.some.inj hg).symm _ (weak_mem [(90000, 90000)] rfl rfl rfl (okW_cons (.inl (leV_refl _)) (okW_cons (.inl (leV_refl _)) (okW_cons (.inl (leV_refl _)) (okW_cons (.inl (leV_refl _)) (okW_cons (ent_own (E := TOwnerEntry.E) (id := 90000) (l' := ((L90000.set ((v29 : Int).toNat) (⟨x14.Call, a2, x14.Offered⟩ : TOwnerEntry)).set ((v29 : Int).toNat) (⟨(⟨x14.Call, a2, x14.Offered⟩ : TOwnerEntry).Call, (⟨x14.Call, a2, x14.Offered⟩ : TOwnerEntry).Owner, a2⟩ : TOwnerEntry))) (by first | rfl | omega | (simp; done) | (simp; omega)) rfl) (okW_cons (.inl (leV_refl _)) (okW_cons (.inl (leV_refl _)) okW_nil))))))) (okB_cons (okB_own (E := TOwnerEntry.E) (ty := 32) (l' := ((L90000.set ((v29 : Int).toNat) (⟨x14.Call, a2, x14.Offered⟩ : TOwnerEntry)).set ((v29 : Int).toNat) (⟨(⟨x14.Call, a2, x14.Offered⟩ : TOwnerEntry).Call, (⟨x14.Call, a2, x14.Offered⟩ : TOwnerEntry).Owner, a2⟩ : TOwnerEntry))) rfl (show mget _ 90000 = _ from (by first | rfl | (simp (disch := first | decide | assumption) only [mpushs_nil, mpushs_cons, mget_hd, mget_tl, mget_appW_o, mget_appW_n, mget_appW_e])))) okB_nil'))
      · refine imp (opP_of (show _ = some ((AV.ptr 90000 (((v29 : Int).toNat) * 3 + 0)), []) from rfl)) ?_
        refine imp (opP_of (show _ = some ((AV.ptr 90000 (((v29 : Int).toNat) * 3 + 2)), []) from rfl)) ?_
        refine imp (opP_of (show _ = some ((strA (⟨x14.Call, a2, x14.Offered⟩ : TOwnerEntry).Offered), []) from (ldS_blk (E := TOwnerEntry.E) (l := (L90000.set ((v29 : Int).toNat) (⟨x14.Call, a2, x14.Offered⟩ : TOwnerEntry))) (ty := 32) (o := 2) (own_some (ty := 32) (by first | rfl | (simp (disch := first | decide | assumption) only [mpushs_nil, mpushs_cons, mget_hd, mget_tl, mget_appW_o, mget_appW_n, mget_appW_e])) (set_get (getI_some h14).2)) (set_get (getI_some h14).2) rfl (by decide) rfl))) ?_
        refine imp exStr_b ?_
        refine imp (opP_of (show _ = some ((AV.ptr 90000 (((v29 : Int).toNat) * 3 + 0)), []) from rfl)) ?_
        refine imp (opP_of (show _ = some ((AV.ptr 90000 (((v29 : Int).toNat) * 3 + 1)), []) from rfl)) ?_
        refine imp (opP_of (show _ = some ((strA (⟨x14.Call, a2, x14.Offered⟩ : TOwnerEntry).Owner), []) from (ldS_blk (E := TOwnerEntry.E) (l := (L90000.set ((v29 : Int).toNat) (⟨x14.Call, a2, x14.Offered⟩ : TOwnerEntry))) (ty := 32) (o := 1) (own_some (ty := 32) (by first | rfl | (simp (disch := first | decide | assumption) only [mpushs_nil, mpushs_cons, mget_hd, mget_tl, mget_appW_o, mget_appW_n, mget_appW_e])) (set_get (getI_some h14).2)) (set_get (getI_some h14).2) rfl (by decide) rfl))) ?_
        refine imp exStr_b ?_
        refine cond_b (fun _ => ?_) (fun _ => ?_)
        · refine imp (opP_of (show _ = some ((AV.ptr 90000 (((v29 : Int).toNat) * 3 + 0)), []) from rfl)) ?_
          refine imp (opP_of (show _ = some ((AV.ptr 90000 (((v29 : Int).toNat) * 3 + 2)), []) from rfl)) ?_
          refine imp (storeW_elO (E := TOwnerEntry.E) (l := (L90000.set ((v29 : Int).toNat) (⟨x14.Call, a2, x14.Offered⟩ : TOwnerEntry))) (i := ((v29 : Int).toNat)) (o := 2) (y := (⟨(⟨x14.Call, a2, x14.Offered⟩ : TOwnerEntry).Call, (⟨x14.Call, a2, x14.Offered⟩ : TOwnerEntry).Owner, (⟨#[]⟩ : ByteArray)⟩ : TOwnerEntry)) (ty := 32) (by kernel_rfl) (by kernel_rfl) rfl (by first | rfl | (simp (disch := first | decide | assumption) only [mpushs_nil, mpushs_cons, mget_hd, mget_tl, mget_appW_o, mget_appW_n, mget_appW_e])) (set_get (getI_some h14).2) rfl (by decide) rfl) ?_
          exact fun hg => hN0 _ (Option.some.inj hg).symm _ (weak_mem [(90000, 90000)] rfl rfl rfl (okW_cons (.inl (leV_refl _)) (okW_cons (.inl (leV_refl _)) (okW_cons (.inl (leV_refl _)) (okW_cons (.inl (leV_refl _)) (okW_cons (ent_own (E := TOwnerEntry.E) (id := 90000) (l' := ((L90000.set ((v29 : Int).toNat) (⟨x14.Call, a2, x14.Offered⟩ : TOwnerEntry)).set ((v29 : Int).toNat) (⟨(⟨x14.Call, a2, x14.Offered⟩ : TOwnerEntry).Call, (⟨x14.Call, a2, x14.Offered⟩ : TOwnerEntry).Owner, (⟨#[]⟩ : ByteArray)⟩ : TOwnerEntry))) (by first | rfl | omega | (simp; done) | (simp; omega)) rfl) (okW_cons (.inl (leV_refl _)) (okW_cons (.inl (leV_refl _)) okW_nil))))))) (okB_cons (okB_own (E := TOwnerEntry.E) (ty := 32) (l' := ((L90000.set ((v29 : Int).toNat) (⟨x14.Call, a2, x14.Offered⟩ : TOwnerEntry)).set ((v29 : Int).toNat) (⟨(⟨x14.Call, a2, x14.Offered⟩ : TOwnerEntry).Call, (⟨x14.Call, a2, x14.Offered⟩ : TOwnerEntry).Owner, (⟨#[]⟩ : ByteArray)⟩ : TOwnerEntry))) rfl (show mget _ 90000 = _ from (by first | rfl | (simp (disch := first | decide | assumption) only [mpushs_nil, mpushs_cons, mget_hd, mget_tl, mget_appW_o, mget_appW_n, mget_appW_e])))) okB_nil'))
        · exact fun hg => hN0 _ (Option.some.inj hg).symm _ (weak_mem [(90000, 90000)] rfl rfl rfl (okW_cons (.inl (leV_refl _)) (okW_cons (.inl (leV_refl _)) (okW_cons (.inl (leV_refl _)) (okW_cons (.inl (leV_refl _)) (okW_cons (ent_own (E := TOwnerEntry.E) (id := 90000) (l' := (L90000.set ((v29 : Int).toNat) (⟨x14.Call, a2, x14.Offered⟩ : TOwnerEntry))) (by first | rfl | omega | (simp; done) | (simp; omega)) rfl) (okW_cons (.inl (leV_refl _)) (okW_cons (.inl (leV_refl _)) okW_nil))))))) (okB_cons (okB_own (E := TOwnerEntry.E) (ty := 32) (l' := (L90000.set ((v29 : Int).toNat) (⟨x14.Call, a2, x14.Offered⟩ : TOwnerEntry))) rfl (show mget _ 90000 = _ from (by first | rfl | (simp (disch := first | decide | assumption) only [mpushs_nil, mpushs_cons, mget_hd, mget_tl, mget_appW_o, mget_appW_n, mget_appW_e])))) okB_nil'))
    · refine imp (opP_of (show _ = some ((AV.ptr 90000 (((v29 : Int).toNat) * 3 + 0)), []) from rfl)) ?_
      refine imp (opP_of (show _ = some ((AV.ptr 90000 (((v29 : Int).toNat) * 3 + 2)), []) from rfl)) ?_
      refine imp (opP_of (show _ = some ((strA x14.Offered), []) from (ldS_blk (E := TOwnerEntry.E) (l := L90000) (ty := 32) (o := 2) (own_some (ty := 32) (by first | rfl | (simp (disch := first | decide | assumption) only [mpushs_nil, mpushs_cons, mget_hd, mget_tl, mget_appW_o, mget_appW_n, mget_appW_e])) (getI_some h14).2) (getI_some h14).2 rfl (by decide) rfl))) ?_
      refine imp exStr_b ?_
      refine cond_b (fun _ => ?_) (fun _ => ?_)
      · refine imp (opP_of (show _ = some ((AV.ptr 90000 (((v29 : Int).toNat) * 3 + 0)), []) from rfl)) ?_
        refine imp (opP_of (show _ = some ((AV.ptr 90000 (((v29 : Int).toNat) * 3 + 2)), []) from rfl)) ?_
        refine imp (storeW_elO (E := TOwnerEntry.E) (l := L90000) (i := ((v29 : Int).toNat)) (o := 2) (y := (⟨x14.Call, x14.Owner, a2⟩ : TOwnerEntry)) (ty := 32) (by kernel_rfl) (by kernel_rfl) rfl (by first | rfl | (simp (disch := first | decide | assumption) only [mpushs_nil, mpushs_cons, mget_hd, mget_tl, mget_appW_o, mget_appW_n, mget_appW_e])) (getI_some h14).2 rfl (by decide) rfl) ?_
        refine imp (opP_of (show _ = some ((AV.ptr 90000 (((v29 : Int).toNat) * 3 + 0)), []) from rfl)) ?_
        refine imp (opP_of (show _ = some ((AV.ptr 90000 (((v29 : Int).toNat) * 3 + 2)), []) from rfl)) ?_
        refine imp (opP_of (show _ = some ((strA (⟨x14.Call, x14.Owner, a2⟩ : TOwnerEntry).Offered), []) from (ldS_blk (E := TOwnerEntry.E) (l := (L90000.set ((v29 : Int).toNat) (⟨x14.Call, x14.Owner, a2⟩ : TOwnerEntry))) (ty := 32) (o := 2) (own_some (ty := 32) (by first | rfl | (simp (disch := first | decide | assumption) only [mpushs_nil, mpushs_cons, mget_hd, mget_tl, mget_appW_o, mget_appW_n, mget_appW_e])) (set_get (getI_some h14).2)) (set_get (getI_some h14).2) rfl (by decide) rfl))) ?_
        refine imp exStr_b ?_
        refine imp (opP_of (show _ = some ((AV.ptr 90000 (((v29 : Int).toNat) * 3 + 0)), []) from rfl)) ?_
        refine imp (opP_of (show _ = some ((AV.ptr 90000 (((v29 : Int).toNat) * 3 + 1)), []) from rfl)) ?_
        refine imp (opP_of (show _ = some ((strA (⟨x14.Call, x14.Owner, a2⟩ : TOwnerEntry).Owner), []) from (ldS_blk (E := TOwnerEntry.E) (l := (L90000.set ((v29 : Int).toNat) (⟨x14.Call, x14.Owner, a2⟩ : TOwnerEntry))) (ty := 32) (o := 1) (own_some (ty := 32) (by first | rfl | (simp (disch := first | decide | assumption) only [mpushs_nil, mpushs_cons, mget_hd, mget_tl, mget_appW_o, mget_appW_n, mget_appW_e])) (set_get (getI_some h14).2)) (set_get (getI_some h14).2) rfl (by decide) rfl))) ?_
        refine imp exStr_b ?_
        refine cond_b (fun _ => ?_) (fun _ => ?_)
        · refine imp (opP_of (show _ = some ((AV.ptr 90000 (((v29 : Int).toNat) * 3 + 0)), []) from rfl)) ?_
          refine imp (opP_of (show _ = some ((AV.ptr 90000 (((v29 : Int).toNat) * 3 + 2)), []) from rfl)) ?_
          refine imp (storeW_elO (E := TOwnerEntry.E) (l := (L90000.set ((v29 : Int).toNat) (⟨x14.Call, x14.Owner, a2⟩ : TOwnerEntry))) (i := ((v29 : Int).toNat)) (o := 2) (y := (⟨(⟨x14.Call, x14.Owner, a2⟩ : TOwnerEntry).Call, (⟨x14.Call, x14.Owner, a2⟩ : TOwnerEntry).Owner, (⟨#[]⟩ : ByteArray)⟩ : TOwnerEntry)) (ty := 32) (by kernel_rfl) (by kernel_rfl) rfl (by first | rfl | (simp (disch := first | decide | assumption) only [mpushs_nil, mpushs_cons, mget_hd, mget_tl, mget_appW_o, mget_appW_n, mget_appW_e])) (set_get (getI_some h14).2) rfl (by decide) rfl) ?_
          exact fun hg => hN0 _ (Option.some.inj hg).symm _ (weak_mem [(90000, 90000)] rfl rfl rfl (okW_cons (.inl (leV_refl _)) (okW_cons (.inl (leV_refl _)) (okW_cons (.inl (leV_refl _)) (okW_cons (.inl (leV_refl _)) (okW_cons (ent_own (E := TOwnerEntry.E) (id := 90000) (l' := ((L90000.set ((v29 : Int).toNat) (⟨x14.Call, x14.Owner, a2⟩ : TOwnerEntry)).set ((v29 : Int).toNat) (⟨(⟨x14.Call, x14.Owner, a2⟩ : TOwnerEntry).Call, (⟨x14.Call, x14.Owner, a2⟩ : TOwnerEntry).Owner, (⟨#[]⟩ : ByteArray)⟩ : TOwnerEntry))) (by first | rfl | omega | (simp; done) | (simp; omega)) rfl) (okW_cons (.inl (leV_refl _)) (okW_cons (.inl (leV_refl _)) okW_nil))))))) (okB_cons (okB_own (E := TOwnerEntry.E) (ty := 32) (l' := ((L90000.set ((v29 : Int).toNat) (⟨x14.Call, x14.Owner, a2⟩ : TOwnerEntry)).set ((v29 : Int).toNat) (⟨(⟨x14.Call, x14.Owner, a2⟩ : TOwnerEntry).Call, (⟨x14.Call, x14.Owner, a2⟩ : TOwnerEntry).Owner, (⟨#[]⟩ : ByteArray)⟩ : TOwnerEntry))) rfl (show mget _ 90000 = _ from (by first | rfl | (simp (disch := first | decide | assumption) only [mpushs_nil, mpushs_cons, mget_hd, mget_tl, mget_appW_o, mget_appW_n, mget_appW_e])))) okB_nil'))
        · exact fun hg => hN0 _ (Option.some.inj hg).symm _ (weak_mem [(90000, 90000)] rfl rfl rfl (okW_cons (.inl (leV_refl _)) (okW_cons (.inl (leV_refl _)) (okW_cons (.inl (leV_refl _)) (okW_cons (.inl (leV_refl _)) (okW_cons (ent_own (E := TOwnerEntry.E) (id := 90000) (l' := (L90000.set ((v29 : Int).toNat) (⟨x14.Call, x14.Owner, a2⟩ : TOwnerEntry))) (by first | rfl | omega | (simp; done) | (simp; omega)) rfl) (okW_cons (.inl (leV_refl _)) (okW_cons (.inl (leV_refl _)) okW_nil))))))) (okB_cons (okB_own (E := TOwnerEntry.E) (ty := 32) (l' := (L90000.set ((v29 : Int).toNat) (⟨x14.Call, x14.Owner, a2⟩ : TOwnerEntry))) rfl (show mget _ 90000 = _ from (by first | rfl | (simp (disch := first | decide | assumption) only [mpushs_nil, mpushs_cons, mget_hd, mget_tl, mget_appW_o, mget_appW_n, mget_appW_e])))) okB_nil'))
      · refine imp (opP_of (show _ = some ((AV.ptr 90000 (((v29 : Int).toNat) * 3 + 0)), []) from rfl)) ?_
        refine imp (opP_of (show _ = some ((AV.ptr 90000 (((v29 : Int).toNat) * 3 + 2)), []) from rfl)) ?_
        refine imp (opP_of (show _ = some ((strA x14.Offered), []) from (ldS_blk (E := TOwnerEntry.E) (l := L90000) (ty := 32) (o := 2) (own_some (ty := 32) (by first | rfl | (simp (disch := first | decide | assumption) only [mpushs_nil, mpushs_cons, mget_hd, mget_tl, mget_appW_o, mget_appW_n, mget_appW_e])) (getI_some h14).2) (getI_some h14).2 rfl (by decide) rfl))) ?_
        refine imp exStr_b ?_
        refine imp (opP_of (show _ = some ((AV.ptr 90000 (((v29 : Int).toNat) * 3 + 0)), []) from rfl)) ?_
        refine imp (opP_of (show _ = some ((AV.ptr 90000 (((v29 : Int).toNat) * 3 + 1)), []) from rfl)) ?_
        refine imp (opP_of (show _ = some ((strA x14.Owner), []) from (ldS_blk (E := TOwnerEntry.E) (l := L90000) (ty := 32) (o := 1) (own_some (ty := 32) (by first | rfl | (simp (disch := first | decide | assumption) only [mpushs_nil, mpushs_cons, mget_hd, mget_tl, mget_appW_o, mget_appW_n, mget_appW_e])) (getI_some h14).2) (getI_some h14).2 rfl (by decide) rfl))) ?_
        refine imp exStr_b ?_
        refine cond_b (fun _ => ?_) (fun _ => ?_)
        · refine imp (opP_of (show _ = some ((AV.ptr 90000 (((v29 : Int).toNat) * 3 + 0)), []) from rfl)) ?_
          refine imp (opP_of (show _ = some ((AV.ptr 90000 (((v29 : Int).toNat) * 3 + 2)), []) from rfl)) ?_
          refine imp (storeW_elO (E := TOwnerEntry.E) (l := L90000) (i := ((v29 : Int).toNat)) (o := 2) (y := (⟨x14.Call, x14.Owner, (⟨#[]⟩ : ByteArray)⟩ : TOwnerEntry)) (ty := 32) (by kernel_rfl) (by kernel_rfl) rfl (by first | rfl | (simp (disch := first | decide | assumption) only [mpushs_nil, mpushs_cons, mget_hd, mget_tl, mget_appW_o, mget_appW_n, mget_appW_e])) (getI_some h14).2 rfl (by decide) rfl) ?_
          exact fun hg => hN0 _ (Option.some.inj hg).symm _ (weak_mem [(90000, 90000)] rfl rfl rfl (okW_cons (.inl (leV_refl _)) (okW_cons (.inl (leV_refl _)) (okW_cons (.inl (leV_refl _)) (okW_cons (.inl (leV_refl _)) (okW_cons (ent_own (E := TOwnerEntry.E) (id := 90000) (l' := (L90000.set ((v29 : Int).toNat) (⟨x14.Call, x14.Owner, (⟨#[]⟩ : ByteArray)⟩ : TOwnerEntry))) (by first | rfl | omega | (simp; done) | (simp; omega)) rfl) (okW_cons (.inl (leV_refl _)) (okW_cons (.inl (leV_refl _)) okW_nil))))))) (okB_cons (okB_own (E := TOwnerEntry.E) (ty := 32) (l' := (L90000.set ((v29 : Int).toNat) (⟨x14.Call, x14.Owner, (⟨#[]⟩ : ByteArray)⟩ : TOwnerEntry))) rfl (show mget _ 90000 = _ from (by first | rfl | (simp (disch := first | decide | assumption) only [mpushs_nil, mpushs_cons, mget_hd, mget_tl, mget_appW_o, mget_appW_n, mget_appW_e])))) okB_nil'))
        · exact fun hg => hN0 _ (Option.some.inj hg).symm _ (weak_mem [(90000, 90000)] rfl rfl rfl (okW_cons (.inl (leV_refl _)) (okW_cons (.inl (leV_refl _)) (okW_cons (.inl (leV_refl _)) (okW_cons (.inl (leV_refl _)) (okW_cons (ent_own (E := TOwnerEntry.E) (id := 90000) (l' := L90000) rfl rfl) (okW_cons (.inl (leV_refl _)) (okW_cons (.inl (leV_refl _)) okW_nil))))))) (okB_cons (okB_own (E := TOwnerEntry.E) (ty := 32) (l' := L90000) rfl (show mget _ 90000 = _ from (by first | rfl | (simp (disch := first | decide | assumption) only [mpushs_nil, mpushs_cons, mget_hd, mget_tl, mget_appW_o, mget_appW_n, mget_appW_e])))) okB_nil'))
  · exact fun hg => retN rfl (hR _ (Option.some.inj hg).symm) (fzL_cons (fz_own (E := TOwnerEntry.E) (ty := 32) (l' := L90000) _ rfl (by first | rfl | (simp (disch := first | decide | assumption) only [mpushs_nil, mpushs_cons, mget_hd, mget_tl, mget_appW_o, mget_appW_n, mget_appW_e]))) (fzL_cons (fz_sc _ _) fzL_nil))
theorem L15_0_ok (n : Nat) (a1 : ByteArray) (a2 : ByteArray) (c7 : Int) (c28 : Int) {t : ρ15} (R : AV → Mem → Prop) (hR : ∀ r : ρ15, t = r → ∀ u m, Ans ((AV.tup [(lstA TOwnerEntry.E r.1), (intA r.2)])) u m → R u m) (k : Nat) (x : Int × List TOwnerEntry) (hx : iterO (fun y : Int × List TOwnerEntry => S15_0 n a1 a2 c7 c28 y.1 y.2) k x = some t) {s : St} (hw : Weak KK 69 0 s (h15_0 a1 a2 AV.nils c7 (ownV TOwnerEntry.E 90000 x.2) c28 x.1 [(90000, ownB TOwnerEntry.E 32 x.2)])) : Tri Try.prog KK 69 0 (.loop c15_0) s (q15_0 R ) :=
  L15_0 R  (σ := Nat × (Int × List TOwnerEntry)) (fun z => iterO (fun y : Int × List TOwnerEntry => S15_0 n a1 a2 c7 c28 y.1 y.2) z.1 z.2 = some t) (fun z => a1) (fun z => a2) (fun z => AV.nils) (fun z => c7) (fun z => (ownV TOwnerEntry.E 90000 z.2.2)) (fun z => c28) (fun z => z.2.1) (fun z => [(90000, ownB TOwnerEntry.E 32 z.2.2)]) (fun z => z.1) (by
    rintro ⟨k, y⟩ h
    cases k with
    | zero => exact (iterO_zero h).elim
    | succ k =>
      obtain ⟨u, h1, h2, h3⟩ := iterO_elim h
      exact B15_0_ok n a1 a2 c7 c28 y.1 y.2 R  _ (fun r e => hR r (h3 _ e).symm)  (fun y' e s' hw => ⟨(k, y'), h2 _ e, Nat.lt_succ_self k, hw⟩) h1) (k, x) hx hw
theorem g15_ok (n : Nat) (a0 : List TOwnerEntry) (a1 : ByteArray) (a2 : ByteArray) {t : ρ15} (R : AV → Mem → Prop) (hR : ∀ r : ρ15, t = r → ∀ u m, Ans ((AV.tup [(lstA TOwnerEntry.E r.1), (intA r.2)])) u m → R u m) : g15 n a0 a1 a2 = some t → F15 (lstA TOwnerEntry.E a0) a1 a2 R := by
  unfold g15 F15
  refine bind_b fun x10 h10 => ?_
  refine imp (callQ_says (sg12 h10)) ?_
  refine imp ex_i64_b ?_
  refine cond_b (fun _ => ?_) (fun _ => ?_)
  · exact fun hg => retN rfl (hR _ (Option.some.inj hg).symm) (fzL_cons (fz_nils (E := TOwnerEntry.E) _) (fzL_cons (fz_sc _ _) fzL_nil))
  · refine bind_b fun x11 h11 => ?_
    refine imp (callQ_says (sg21 h11)) ?_
    refine imp exB_b ?_
    refine cond_b (fun _ => ?_) (fun _ => ?_)
    · exact fun hg => retN rfl (hR _ (Option.some.inj hg).symm) (fzL_cons (fz_nils (E := TOwnerEntry.E) _) (fzL_cons (fz_sc _ _) fzL_nil))
    · refine bind_b fun x12 h12 => ?_
      refine imp (callQ_says (sg21 h12)) ?_
      refine imp exB_b ?_
      refine cond_b (fun _ => ?_) (fun _ => ?_)
      · exact fun hg => retN rfl (hR _ (Option.some.inj hg).symm) (fzL_cons (fz_nils (E := TOwnerEntry.E) _) (fzL_cons (fz_sc _ _) fzL_nil))
      · refine bind_b fun x13 h13 => ?_
        refine imp (callW_D (show PureD _ _ _ _ _ _ (ownV TOwnerEntry.E 205 a0) [(205, ownB TOwnerEntry.E 32 a0)] from cloneC28 h13)) ?_
        refine imp (opP_of (show _ = some ((intA (a0.length : Int)), []) from len_own)) ?_
        refine imp ex_i64_b ?_
        exact fun hg => L15_0_ok n a1 a2 (0) (a0.length : Int) R  hR n _ hg (weak_mem [(90000, 205)] rfl rfl rfl (okW_cons (.inl (leV_refl _)) (okW_cons (.inl (leV_refl _)) (okW_cons (.inl (leV_refl _)) (okW_cons (.inl (leV_refl _)) (okW_cons (ent_own (E := TOwnerEntry.E) (id := 205) (l' := a0) rfl rfl) (okW_cons (.inl (leV_refl _)) (okW_cons (.inl (leV_refl _)) okW_nil))))))) (okB_cons (okB_own (E := TOwnerEntry.E) (ty := 32) (l' := a0) rfl (show mget _ 205 = _ from (by first | rfl | (simp (disch := first | decide | assumption) only [mpushs_nil, mpushs_cons, mget_hd, mget_tl, mget_appW_o, mget_appW_n, mget_appW_e])))) okB_nil'))
theorem sg15 {n : Nat} {a0 : List TOwnerEntry} {a1 : ByteArray} {a2 : ByteArray} {t : ρ15} (h : g15 n a0 a1 a2 = some t) : Says Try.prog KK.gl 15 [(lstA TOwnerEntry.E a0), (strA a1), (strA a2)] ((AV.tup [(lstA TOwnerEntry.E t.1), (intA t.2)])) :=
  says_of_own (by first | rfl | simp [cleans, clean, encs_clean, En.cln]) (by first | rfl | simp [cleans, clean, encs_clean, En.cln]) (F15_own (lstA TOwnerEntry.E a0) a1 a2 _ (g15_ok n a0 a1 a2 (Ans ((AV.tup [(lstA TOwnerEntry.E t.1), (intA t.2)]))) (fun r e u m h => by rw [e]; exact h) h))
/- skyway/owner.Flights -/
theorem B14_0_ok (n : Nat) (a1 : ByteArray) (c5 : Int) (a0 : List TOwnerEntry) (c16 : Int) (v17 : Int) (L90000 : List ByteArray) {t : (Int × List ByteArray) ⊕ ρ14} (R : AV → Mem → Prop) (N0 : St → Prop) (hR : ∀ r : ρ14, t = (.inr r) → ∀ u m, Ans ((AV.tup [(lstA strE r.1), (intA r.2)])) u m → R u m) (hN0 : ∀ y : Int × List ByteArray, t = (.inl y) → ∀ s' : St, Weak KK 32 0 s' (h14_0 a1 AV.nils c5 (ownV strE 90000 y.2) (lstA TOwnerEntry.E a0) c16 y.1 [(90000, ownB strE 9 y.2)]) → N0 s') : S14_0 n a1 c5 a0 c16 v17 L90000 = some t → B14_0 a1 AV.nils c5 (ownV strE 90000 L90000) (lstA TOwnerEntry.E a0) c16 v17 [(90000, ownB strE 9 L90000)] R N0 := by
  unfold S14_0 B14_0
  refine cond_b (fun _ => ?_) (fun _ => ?_)
  · refine bind_b fun x17 h17 => ?_
    refine imp (opP_of (show _ = some ((AV.ept [(strA x17.Call), (strA x17.Owner), (strA x17.Offered)] 0), []) from (idx_lst (E := TOwnerEntry.E) rfl h17))) ?_
    refine imp (opP_of (show _ = some ((AV.agg [(strA x17.Call), (strA x17.Owner), (strA x17.Offered)]), []) from rfl)) ?_
    refine imp exA3_b ?_
    refine imp exStr_b ?_
    refine imp exStr_b ?_
    refine imp exStr_b ?_
    refine cond_b (fun _ => ?_) (fun _ => ?_)
    · refine imp (opN_of (show _ = some ((blkV strE 100012 ([x17.Call] : List ByteArray)), [(100012, some ⟨encs strE ([x17.Call] : List ByteArray), 9⟩)]) from rfl)) ?_
      refine bind_b fun x19 h19 => ?_
      refine imp (opN_of (show _ = some ((ownV strE 100013 (L90000 ++ ([x17.Call] : List ByteArray))), (appW strE 100013 90000 9 L90000 ([x17.Call] : List ByteArray))) from (app_own (E := strE) (l' := L90000) (xs := ([x17.Call] : List ByteArray)) rfl rfl (cellsOf_blk (E := strE) (ty := 9) rfl rfl (by first | rfl | (simp (disch := first | decide | assumption) only [mpushs_nil, mpushs_cons, mget_hd, mget_tl, mget_appW_o, mget_appW_n, mget_appW_e]))) (by first | assumption | simp) rfl (fun hne => Eq.trans (by first | rfl | (simp (disch := first | decide | assumption) only [mpushs_nil, mpushs_cons, mget_hd, mget_tl, mget_appW_o, mget_appW_n, mget_appW_e])) (ownB_ne hne)) h19))) ?_
      exact fun hg => hN0 _ (Option.some.inj hg).symm _ (weak_mem [(90000, 100013)] rfl rfl rfl (okW_cons (.inl (leV_refl _)) (okW_cons (.inl (leV_refl _)) (okW_cons (.inl (leV_refl _)) (okW_cons (ent_own (E := strE) (id := 100013) (l' := (L90000 ++ ([x17.Call] : List ByteArray))) rfl rfl) (okW_cons (ent_lst (E := TOwnerEntry.E) _ false) (okW_cons (.inl (leV_refl _)) (okW_cons (.inl (leV_refl _)) okW_nil))))))) (okB_cons (okB_own (E := strE) (ty := 9) (l' := (L90000 ++ ([x17.Call] : List ByteArray))) rfl (show mget _ 100013 = _ from (by first | rfl | (simp (disch := first | decide | assumption) only [mpushs_nil, mpushs_cons, mget_hd, mget_tl, mget_appW_o, mget_appW_n, mget_appW_e])))) okB_nil'))
    · exact fun hg => hN0 _ (Option.some.inj hg).symm _ (weak_mem [(90000, 90000)] rfl rfl rfl (okW_cons (.inl (leV_refl _)) (okW_cons (.inl (leV_refl _)) (okW_cons (.inl (leV_refl _)) (okW_cons (ent_own (E := strE) (id := 90000) (l' := L90000) rfl rfl) (okW_cons (ent_lst (E := TOwnerEntry.E) _ false) (okW_cons (.inl (leV_refl _)) (okW_cons (.inl (leV_refl _)) okW_nil))))))) (okB_cons (okB_own (E := strE) (ty := 9) (l' := L90000) rfl (show mget _ 90000 = _ from (by first | rfl | (simp (disch := first | decide | assumption) only [mpushs_nil, mpushs_cons, mget_hd, mget_tl, mget_appW_o, mget_appW_n, mget_appW_e])))) okB_nil'))
  · exact fun hg => retN rfl (hR _ (Option.some.inj hg).symm) (fzL_cons (fz_own (E := strE) (ty := 9) (l' := L90000) _ rfl (by first | rfl | (simp (disch := first | decide | assumption) only [mpushs_nil, mpushs_cons, mget_hd, mget_tl, mget_appW_o, mget_appW_n, mget_appW_e]))) (fzL_cons (fz_sc _ _) fzL_nil))
theorem L14_0_ok (n : Nat) (a1 : ByteArray) (c5 : Int) (a0 : List TOwnerEntry) (c16 : Int) {t : ρ14} (R : AV → Mem → Prop) (hR : ∀ r : ρ14, t = r → ∀ u m, Ans ((AV.tup [(lstA strE r.1), (intA r.2)])) u m → R u m) (k : Nat) (x : Int × List ByteArray) (hx : iterO (fun y : Int × List ByteArray => S14_0 n a1 c5 a0 c16 y.1 y.2) k x = some t) {s : St} (hw : Weak KK 32 0 s (h14_0 a1 AV.nils c5 (ownV strE 90000 x.2) (lstA TOwnerEntry.E a0) c16 x.1 [(90000, ownB strE 9 x.2)])) : Tri Try.prog KK 32 0 (.loop c14_0) s (q14_0 R ) :=
  L14_0 R  (σ := Nat × (Int × List ByteArray)) (fun z => iterO (fun y : Int × List ByteArray => S14_0 n a1 c5 a0 c16 y.1 y.2) z.1 z.2 = some t) (fun z => a1) (fun z => AV.nils) (fun z => c5) (fun z => (ownV strE 90000 z.2.2)) (fun z => (lstA TOwnerEntry.E a0)) (fun z => c16) (fun z => z.2.1) (fun z => [(90000, ownB strE 9 z.2.2)]) (fun z => z.1) (by
    rintro ⟨k, y⟩ h
    cases k with
    | zero => exact (iterO_zero h).elim
    | succ k =>
      obtain ⟨u, h1, h2, h3⟩ := iterO_elim h
      exact B14_0_ok n a1 c5 a0 c16 y.1 y.2 R  _ (fun r e => hR r (h3 _ e).symm)  (fun y' e s' hw => ⟨(k, y'), h2 _ e, Nat.lt_succ_self k, hw⟩) h1) (k, x) hx hw
theorem g14_ok (n : Nat) (a0 : List TOwnerEntry) (a1 : ByteArray) {t : ρ14} (R : AV → Mem → Prop) (hR : ∀ r : ρ14, t = r → ∀ u m, Ans ((AV.tup [(lstA strE r.1), (intA r.2)])) u m → R u m) : g14 n a0 a1 = some t → F14 (lstA TOwnerEntry.E a0) a1 R := by
  unfold g14 F14
  refine bind_b fun x16 h16 => ?_
  refine imp (callQ_says (sg12 h16)) ?_
  refine imp ex_i64_b ?_
  refine cond_b (fun _ => ?_) (fun _ => ?_)
  · exact fun hg => retN rfl (hR _ (Option.some.inj hg).symm) (fzL_cons (fz_nils (E := strE) _) (fzL_cons (fz_sc _ _) fzL_nil))
  · refine imp (opP_of (show _ = some ((intA (a0.length : Int)), []) from rfl)) ?_
    refine imp ex_i64_b ?_
    exact fun hg => L14_0_ok n a1 (0) a0 (a0.length : Int) R  hR n _ hg (weak_mem [(90000, 89500)] rfl rfl rfl (okW_cons (.inl (leV_refl _)) (okW_cons (.inl (leV_refl _)) (okW_cons (.inl (leV_refl _)) (okW_cons ent_nils_own (okW_cons (ent_lst (E := TOwnerEntry.E) _ false) (okW_cons (.inl (leV_refl _)) (okW_cons (.inl (leV_refl _)) okW_nil))))))) (okB_cons okB_nil okB_nil'))
theorem sg14 {n : Nat} {a0 : List TOwnerEntry} {a1 : ByteArray} {t : ρ14} (h : g14 n a0 a1 = some t) : Says Try.prog KK.gl 14 [(lstA TOwnerEntry.E a0), (strA a1)] ((AV.tup [(lstA strE t.1), (intA t.2)])) :=
  says_of_own (by first | rfl | simp [cleans, clean, encs_clean, En.cln]) (by first | rfl | simp [cleans, clean, encs_clean, En.cln]) (F14_own (lstA TOwnerEntry.E a0) a1 _ (g14_ok n a0 a1 (Ans ((AV.tup [(lstA strE t.1), (intA t.2)]))) (fun r e u m h => by rw [e]; exact h) h))
/- slices.Equal[[]string,string] -/
theorem B16_0_ok (n : Nat) (a0 : List ByteArray) (a1 : List ByteArray) (c4 : Bool) (c12 : Int) (v13 : Int) {t : (Int) ⊕ ρ16} (R : AV → Mem → Prop) (N0 : St → Prop) (hR : ∀ r : ρ16, t = (.inr r) → ∀ u m, Ans ((boolA r)) u m → R u m) (hN0 : ∀ y : Int, t = (.inl y) → ∀ s' : St, Weak KK 26 0 s' (h16_0 (lstA strE a0) (lstA strE a1) c4 c12 y []) → N0 s') : S16_0 n a0 a1 c4 c12 v13 = some t → B16_0 (lstA strE a0) (lstA strE a1) c4 c12 v13 [] R N0 := by
  unfold S16_0 B16_0
  refine cond_b (fun _ => ?_) (fun _ => ?_)
  · refine bind_b fun x25 h25 => ?_
    refine imp (opP_of (show _ = some ((AV.ept [(strA x25)] 0), []) from (idx_lst (E := strE) rfl h25))) ?_
    refine imp (opP_of (show _ = some ((strA x25), []) from rfl)) ?_
    refine imp exStr_b ?_
    refine bind_b fun x26 h26 => ?_
    refine imp (opP_of (show _ = some ((AV.ept [(strA x26)] 0), []) from (idx_lst (E := strE) rfl h26))) ?_
    refine imp (opP_of (show _ = some ((strA x26), []) from rfl)) ?_
    refine imp exStr_b ?_
    refine cond_b (fun _ => ?_) (fun _ => ?_)
    · exact fun hg => ret1 (hR _ (Option.some.inj hg).symm) (fz_sc _ _)
    · exact fun hg => hN0 _ (Option.some.inj hg).symm _ (weak_mem [] rfl rfl rfl (okW_cons (ent_lst (E := strE) _ false) (okW_cons (ent_lst (E := strE) _ false) (okW_cons (.inl (leV_refl _)) (okW_cons (.inl (leV_refl _)) (okW_cons (.inl (leV_refl _)) okW_nil))))) okB_nil')
  · exact fun hg => ret1 (hR _ (Option.some.inj hg).symm) (fz_sc _ _)
theorem L16_0_ok (n : Nat) (a0 : List ByteArray) (a1 : List ByteArray) (c4 : Bool) (c12 : Int) {t : ρ16} (R : AV → Mem → Prop) (hR : ∀ r : ρ16, t = r → ∀ u m, Ans ((boolA r)) u m → R u m) (k : Nat) (x : Int) (hx : iterO (fun y : Int => S16_0 n a0 a1 c4 c12 y) k x = some t) {s : St} (hw : Weak KK 26 0 s (h16_0 (lstA strE a0) (lstA strE a1) c4 c12 x [])) : Tri Try.prog KK 26 0 (.loop c16_0) s (q16_0 R ) :=
  L16_0 R  (σ := Nat × (Int)) (fun z => iterO (fun y : Int => S16_0 n a0 a1 c4 c12 y) z.1 z.2 = some t) (fun z => (lstA strE a0)) (fun z => (lstA strE a1)) (fun z => c4) (fun z => c12) (fun z => z.2) (fun z => []) (fun z => z.1) (by
    rintro ⟨k, y⟩ h
    cases k with
    | zero => exact (iterO_zero h).elim
    | succ k =>
      obtain ⟨u, h1, h2, h3⟩ := iterO_elim h
      exact B16_0_ok n a0 a1 c4 c12 y R  _ (fun r e => hR r (h3 _ e).symm)  (fun y' e s' hw => ⟨(k, y'), h2 _ e, Nat.lt_succ_self k, hw⟩) h1) (k, x) hx hw
theorem g16_ok (n : Nat) (a0 : List ByteArray) (a1 : List ByteArray) {t : ρ16} (R : AV → Mem → Prop) (hR : ∀ r : ρ16, t = r → ∀ u m, Ans ((boolA r)) u m → R u m) : g16 n a0 a1 = some t → F16 (lstA strE a0) (lstA strE a1) R := by
  unfold g16 F16
  refine imp (opP_of (show _ = some ((intA (a0.length : Int)), []) from rfl)) ?_
  refine imp ex_i64_b ?_
  refine imp (opP_of (show _ = some ((intA (a1.length : Int)), []) from rfl)) ?_
  refine imp ex_i64_b ?_
  refine cond_b (fun _ => ?_) (fun _ => ?_)
  · exact fun hg => ret1 (hR _ (Option.some.inj hg).symm) (fz_sc _ _)
  · refine imp (opP_of (show _ = some ((intA (a0.length : Int)), []) from rfl)) ?_
    refine imp ex_i64_b ?_
    exact fun hg => L16_0_ok n a0 a1 false (a0.length : Int) R  hR n _ hg (weak_mem [] rfl rfl rfl (okW_cons (ent_lst (E := strE) _ false) (okW_cons (ent_lst (E := strE) _ false) (okW_cons (.inl (leV_refl _)) (okW_cons (.inl (leV_refl _)) (okW_cons (.inl (leV_refl _)) okW_nil))))) okB_nil')
theorem sg16 {n : Nat} {a0 : List ByteArray} {a1 : List ByteArray} {t : ρ16} (h : g16 n a0 a1 = some t) : Says Try.prog KK.gl 16 [(lstA strE a0), (lstA strE a1)] ((boolA t)) :=
  says_of_own (by first | rfl | simp [cleans, clean, encs_clean, En.cln]) (by first | rfl | simp [cleans, clean, encs_clean, En.cln]) (F16_own (lstA strE a0) (lstA strE a1) _ (g16_ok n a0 a1 (Ans ((boolA t))) (fun r e u m h => by rw [e]; exact h) h))
/- slices.Equal[[]skyway/api.OwnerEntry,skyway/api.OwnerEntry] -/
theorem B11_0_ok (n : Nat) (a0 : List TOwnerEntry) (a1 : List TOwnerEntry) (c4 : Bool) (c12 : Int) (v13 : Int) {t : (Int) ⊕ ρ11} (R : AV → Mem → Prop) (N0 : St → Prop) (hR : ∀ r : ρ11, t = (.inr r) → ∀ u m, Ans ((boolA r)) u m → R u m) (hN0 : ∀ y : Int, t = (.inl y) → ∀ s' : St, Weak KK 26 0 s' (h11_0 (lstA TOwnerEntry.E a0) (lstA TOwnerEntry.E a1) c4 c12 y []) → N0 s') : S11_0 n a0 a1 c4 c12 v13 = some t → B11_0 (lstA TOwnerEntry.E a0) (lstA TOwnerEntry.E a1) c4 c12 v13 [] R N0 := by
  unfold S11_0 B11_0
  refine cond_b (fun _ => ?_) (fun _ => ?_)
  · refine bind_b fun x28 h28 => ?_
    refine imp (opP_of (show _ = some ((AV.ept [(strA x28.Call), (strA x28.Owner), (strA x28.Offered)] 0), []) from (idx_lst (E := TOwnerEntry.E) rfl h28))) ?_
    refine imp (opP_of (show _ = some ((AV.agg [(strA x28.Call), (strA x28.Owner), (strA x28.Offered)]), []) from rfl)) ?_
    refine imp exA3_b ?_
    refine imp exStr_b ?_
    refine imp exStr_b ?_
    refine imp exStr_b ?_
    refine bind_b fun x29 h29 => ?_
    refine imp (opP_of (show _ = some ((AV.ept [(strA x29.Call), (strA x29.Owner), (strA x29.Offered)] 0), []) from (idx_lst (E := TOwnerEntry.E) rfl h29))) ?_
    refine imp (opP_of (show _ = some ((AV.agg [(strA x29.Call), (strA x29.Owner), (strA x29.Offered)]), []) from rfl)) ?_
    refine imp exA3_b ?_
    refine imp exStr_b ?_
    refine imp exStr_b ?_
    refine imp exStr_b ?_
    refine imp (opP_of (show _ = some ((boolA (!(decide (x28 = x29)))), []) from (TOwnerEntry.neq32 (x28) (x29)))) ?_
    refine imp exB_b ?_
    refine cond_b (fun _ => ?_) (fun _ => ?_)
    · exact fun hg => ret1 (hR _ (Option.some.inj hg).symm) (fz_sc _ _)
    · exact fun hg => hN0 _ (Option.some.inj hg).symm _ (weak_mem [] rfl rfl rfl (okW_cons (ent_lst (E := TOwnerEntry.E) _ false) (okW_cons (ent_lst (E := TOwnerEntry.E) _ false) (okW_cons (.inl (leV_refl _)) (okW_cons (.inl (leV_refl _)) (okW_cons (.inl (leV_refl _)) okW_nil))))) okB_nil')
  · exact fun hg => ret1 (hR _ (Option.some.inj hg).symm) (fz_sc _ _)
theorem L11_0_ok (n : Nat) (a0 : List TOwnerEntry) (a1 : List TOwnerEntry) (c4 : Bool) (c12 : Int) {t : ρ11} (R : AV → Mem → Prop) (hR : ∀ r : ρ11, t = r → ∀ u m, Ans ((boolA r)) u m → R u m) (k : Nat) (x : Int) (hx : iterO (fun y : Int => S11_0 n a0 a1 c4 c12 y) k x = some t) {s : St} (hw : Weak KK 26 0 s (h11_0 (lstA TOwnerEntry.E a0) (lstA TOwnerEntry.E a1) c4 c12 x [])) : Tri Try.prog KK 26 0 (.loop c11_0) s (q11_0 R ) :=
  L11_0 R  (σ := Nat × (Int)) (fun z => iterO (fun y : Int => S11_0 n a0 a1 c4 c12 y) z.1 z.2 = some t) (fun z => (lstA TOwnerEntry.E a0)) (fun z => (lstA TOwnerEntry.E a1)) (fun z => c4) (fun z => c12) (fun z => z.2) (fun z => []) (fun z => z.1) (by
    rintro ⟨k, y⟩ h
    cases k with
    | zero => exact (iterO_zero h).elim
    | succ k =>
      obtain ⟨u, h1, h2, h3⟩ := iterO_elim h
      exact B11_0_ok n a0 a1 c4 c12 y R  _ (fun r e => hR r (h3 _ e).symm)  (fun y' e s' hw => ⟨(k, y'), h2 _ e, Nat.lt_succ_self k, hw⟩) h1) (k, x) hx hw
theorem g11_ok (n : Nat) (a0 : List TOwnerEntry) (a1 : List TOwnerEntry) {t : ρ11} (R : AV → Mem → Prop) (hR : ∀ r : ρ11, t = r → ∀ u m, Ans ((boolA r)) u m → R u m) : g11 n a0 a1 = some t → F11 (lstA TOwnerEntry.E a0) (lstA TOwnerEntry.E a1) R := by
  unfold g11 F11
  refine imp (opP_of (show _ = some ((intA (a0.length : Int)), []) from rfl)) ?_
  refine imp ex_i64_b ?_
  refine imp (opP_of (show _ = some ((intA (a1.length : Int)), []) from rfl)) ?_
  refine imp ex_i64_b ?_
  refine cond_b (fun _ => ?_) (fun _ => ?_)
  · exact fun hg => ret1 (hR _ (Option.some.inj hg).symm) (fz_sc _ _)
  · refine imp (opP_of (show _ = some ((intA (a0.length : Int)), []) from rfl)) ?_
    refine imp ex_i64_b ?_
    exact fun hg => L11_0_ok n a0 a1 false (a0.length : Int) R  hR n _ hg (weak_mem [] rfl rfl rfl (okW_cons (ent_lst (E := TOwnerEntry.E) _ false) (okW_cons (ent_lst (E := TOwnerEntry.E) _ false) (okW_cons (.inl (leV_refl _)) (okW_cons (.inl (leV_refl _)) (okW_cons (.inl (leV_refl _)) okW_nil))))) okB_nil')
theorem sg11 {n : Nat} {a0 : List TOwnerEntry} {a1 : List TOwnerEntry} {t : ρ11} (h : g11 n a0 a1 = some t) : Says Try.prog KK.gl 11 [(lstA TOwnerEntry.E a0), (lstA TOwnerEntry.E a1)] ((boolA t)) :=
  says_of_own (by first | rfl | simp [cleans, clean, encs_clean, En.cln]) (by first | rfl | simp [cleans, clean, encs_clean, En.cln]) (F11_own (lstA TOwnerEntry.E a0) (lstA TOwnerEntry.E a1) _ (g11_ok n a0 a1 (Ans ((boolA t))) (fun r e u m h => by rw [e]; exact h) h))
/- skyway/skywaykeep3.OwnerMerges -/
theorem g5_ok (n : Nat) (a0 : List TOwnerEntry) (a1 : ByteArray) (a2 : ByteArray) {t : ρ5} (R : AV → Mem → Prop) (hR : ∀ r : ρ5, t = r → ∀ u m, Ans ((boolA r)) u m → R u m) : g5 n a0 a1 a2 = some t → F5 (lstA TOwnerEntry.E a0) a1 a2 R := by
  unfold g5 F5
  refine bind_b fun x0 h0 => ?_
  refine imp (callQ_says (sg6 h0)) ?_
  refine imp exB_b ?_
  refine cond_b (fun _ => ?_) (fun _ => ?_)
  · exact fun hg => ret1 (hR _ (Option.some.inj hg).symm) (fz_sc _ _)
  · refine bind_b fun x15 h15 => ?_
    refine imp (callQ_says (sg15 h15)) ?_
    refine imp exT2_b ?_
    refine imp ex_i64_b ?_
    refine cond_b (fun _ => ?_) (fun _ => ?_)
    · exact fun hg => ret1 (hR _ (Option.some.inj hg).symm) (fz_sc _ _)
    · refine bind_b fun x20 h20 => ?_
      refine imp (callQ_says (sg14 h20)) ?_
      refine imp exT2_b ?_
      refine imp ex_i64_b ?_
      refine bind_b fun x21 h21 => ?_
      refine imp (callQ_says (sg14 h21)) ?_
      refine imp exT2_b ?_
      refine imp ex_i64_b ?_
      refine bind_b fun x22 h22 => ?_
      refine imp (callQ_says (sg14 h22)) ?_
      refine imp exT2_b ?_
      refine imp ex_i64_b ?_
      refine bind_b fun x23 h23 => ?_
      refine imp (callQ_says (sg14 h23)) ?_
      refine imp exT2_b ?_
      refine imp ex_i64_b ?_
      refine cond_b (fun _ => ?_) (fun _ => ?_)
      · exact fun hg => ret1 (hR _ (Option.some.inj hg).symm) (fz_sc _ _)
      · refine cond_b (fun _ => ?_) (fun _ => ?_)
        · exact fun hg => ret1 (hR _ (Option.some.inj hg).symm) (fz_sc _ _)
        · refine cond_b (fun _ => ?_) (fun _ => ?_)
          · exact fun hg => ret1 (hR _ (Option.some.inj hg).symm) (fz_sc _ _)
          · refine cond_b (fun _ => ?_) (fun _ => ?_)
            · exact fun hg => ret1 (hR _ (Option.some.inj hg).symm) (fz_sc _ _)
            · refine bind_b fun x24 h24 => ?_
              refine imp (callQ_says (sg12 h24)) ?_
              refine imp ex_i64_b ?_
              refine cond_b (fun _ => ?_) (fun _ => ?_)
              · exact fun hg => ret1 (hR _ (Option.some.inj hg).symm) (fz_sc _ _)
              · refine cond_b (fun _ => ?_) (fun _ => ?_)
                · refine bind_b fun x27 h27 => ?_
                  refine imp (callQ_says (sg16 h27)) ?_
                  refine imp exB_b ?_
                  refine cond_b (fun _ => ?_) (fun _ => ?_)
                  · refine bind_b fun x30 h30 => ?_
                    refine imp (callQ_says (sg11 h30)) ?_
                    refine imp exB_b ?_
                    exact fun hg => ret1 (hR _ (Option.some.inj hg).symm) (fz_sc _ _)
                  · exact fun hg => ret1 (hR _ (Option.some.inj hg).symm) (fz_sc _ _)
                · refine imp (opN_of (show _ = some ((blkV (lstE strE) 511 ([x20.1, x21.1] : List (List ByteArray))), [(511, some ⟨encs (lstE strE) ([x20.1, x21.1] : List (List ByteArray)), 35⟩)]) from rfl)) ?_
                  refine bind_b fun x31 h31 => ?_
                  refine imp (callW_D (show PureD _ _ _ _ _ _ (ownV strE 512 x31) [(511, none), (512, ownB strE 9 x31)] from pureD_frz rfl (by first | rfl | (simp (disch := first | decide | assumption) only [mpushs_nil, mpushs_cons, mget_hd, mget_tl, mget_appW_o, mget_appW_n, mget_appW_e])) (fun _ => catC17 h31))) ?_
                  refine bind_b fun x32 h32 => ?_
                  have lh32 : (sortS x31).length = x31.length := sortS_len _
                  refine imp (callW_sortStr ssort18 snone18 splain18 rfl (by first | rfl | (simp (disch := first | decide | assumption) only [mpushs_nil, mpushs_cons, mget_hd, mget_tl, mget_appW_o, mget_appW_n, mget_appW_e])) (lenO_some h32)) ?_
                  refine imp exT0_b ?_
                  refine bind_b fun x33 h33 => ?_
                  refine imp (callQ_pure (pure_snapN (snL_cons (sn_own (E := strE) (ty := 9) (l' := (sortS x31)) _ strE.nf (by first | rfl | omega | (simp; done) | (simp; omega)) (by first | rfl | (simp (disch := first | decide | assumption) only [mpushs_nil, mpushs_cons, mget_hd, mget_tl, mget_appW_o, mget_appW_n, mget_appW_e]))) (snL_cons (sn_lst (E := strE) _ _ false) snL_nil)) (sg16 h33) rfl)) ?_
                  refine imp exB_b ?_
                  refine cond_b (fun _ => ?_) (fun _ => ?_)
                  · refine imp (opP_of (show _ = some ((intA (x23.1.length : Int)), []) from rfl)) ?_
                    refine imp ex_i64_b ?_
                    exact fun hg => ret1 (hR _ (Option.some.inj hg).symm) (fz_sc _ _)
                  · exact fun hg => ret1 (hR _ (Option.some.inj hg).symm) (fz_sc _ _)
theorem sg5 {n : Nat} {a0 : List TOwnerEntry} {a1 : ByteArray} {a2 : ByteArray} {t : ρ5} (h : g5 n a0 a1 a2 = some t) : Says Try.prog KK.gl 5 [(lstA TOwnerEntry.E a0), (strA a1), (strA a2)] ((boolA t)) :=
  says_of_own (by first | rfl | simp [cleans, clean, encs_clean, En.cln]) (by first | rfl | simp [cleans, clean, encs_clean, En.cln]) (F5_own (lstA TOwnerEntry.E a0) a1 a2 _ (g5_ok n a0 a1 a2 (Ans ((boolA t))) (fun r e u m h => by rw [e]; exact h) h))
end Go.Proofs.Ytekjoddmohjpbaa
