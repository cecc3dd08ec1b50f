/- Plain functional programs out of the program's functions, with proofs that the functions compute them; printed by wip/Ext.lean.txt. -/
import Derived.Test.YtfmodgffhbljoaaX1E2
import Derived.Test.YtfmodgffhbljoaaBeH
set_option linter.unusedVariables false
set_option linter.unusedSimpArgs false
set_option maxRecDepth 100000
set_option maxHeartbeats 4000000
namespace Go.Proofs.Ytfmodgffhbljoaa
/- skyway/skywaykeep3.SequenceGains -/
theorem g8_ok (n : Nat) (a0 : List TSequenceArrival) (a1 : TWakeTable) (a2 : Int) (a3 : Int) {t : ρ8} (R : AV → Mem → Prop) (hR : ∀ r : ρ8, t = r → ∀ u m, Ans ((boolA r)) u m → R u m) : g8 n a0 a1 a2 a3 = some t → F8 (lstA TSequenceArrival.E a0) a1.c0_0 a1.c0_1 a1.c0_2 a1.c0_3 a1.c1_0 a1.c1_1 a1.c1_2 a1.c1_3 a1.c2_0 a1.c2_1 a1.c2_2 a1.c2_3 a1.c3_0 a1.c3_1 a1.c3_2 a1.c3_3 a2 a3 R := by
  unfold g8 F8
  refine bind_b fun x63 h63 => ?_
  refine imp (callQ_says (sg28 h63)) ?_
  refine imp exB_b ?_
  refine cond_b (fun _ => ?_) (fun _ => ?_)
  · exact fun hg => ret1 (hR _ (Option.some.inj hg).symm) (fz_sc _ _)
  · refine imp (opP_of (show _ = some ((intA (a0.length : Int)), []) from rfl)) ?_
    refine imp ex_i64_b ?_
    refine cond_b (fun _ => ?_) (fun _ => ?_)
    · exact fun hg => ret1 (hR _ (Option.some.inj hg).symm) (fz_sc _ _)
    · refine bind_b fun x65 h65 => ?_
      refine imp (callQ_says (sg15 h65)) ?_
      refine imp ex_i64_b ?_
      refine bind_b fun x66 h66 => ?_
      refine imp (callQ_says (sg15 h66)) ?_
      refine imp ex_i64_b ?_
      refine imp (opP_of (show _ = some ((intA (if x66 < x65 then x66 else x65)), []) from (by kernel_rfl))) ?_
      refine imp ex_i64_b ?_
      refine bind_b fun x67 h67 => ?_
      refine imp (callW_D (show PureD _ _ _ _ _ _ (AV.tup [(lstA intE x67.1), (ownV intE 207 x67.2.1), (intA x67.2.2)]) [(207, ownB intE 3 x67.2.1)] from m2g29C h67)) ?_
      refine imp exT3_b ?_
      refine imp ex_i64_b ?_
      refine imp (opP_of (show _ = some ((AV.agg [(intA a1.c0_0), (intA a1.c0_1), (intA a1.c0_2), (intA a1.c0_3), (intA a1.c1_0), (intA a1.c1_1), (intA a1.c1_2), (intA a1.c1_3), (intA a1.c2_0), (intA a1.c2_1), (intA a1.c2_2), (intA a1.c2_3), (intA a1.c3_0), (intA a1.c3_1), (intA a1.c3_2), (intA a1.c3_3)]), []) from (ldA_ptr (b := ⟨[(intA a1.c0_0), (intA a1.c0_1), (intA a1.c0_2), (intA a1.c0_3), (intA a1.c1_0), (intA a1.c1_1), (intA a1.c1_2), (intA a1.c1_3), (intA a1.c2_0), (intA a1.c2_1), (intA a1.c2_2), (intA a1.c2_3), (intA a1.c3_0), (intA a1.c3_1), (intA a1.c3_2), (intA a1.c3_3)], 24⟩) (by first | rfl | (simp (disch := first | decide | assumption) only [mpushs_nil, mpushs_cons, mget_hd, mget_tl, mget_appW_o, mget_appW_n, mget_appW_e])) rfl))) ?_
      refine imp exA16_b ?_
      refine imp ex_i64_b ?_
      refine imp ex_i64_b ?_
      refine imp ex_i64_b ?_
      refine imp ex_i64_b ?_
      refine imp ex_i64_b ?_
      refine imp ex_i64_b ?_
      refine imp ex_i64_b ?_
      refine imp ex_i64_b ?_
      refine imp ex_i64_b ?_
      refine imp ex_i64_b ?_
      refine imp ex_i64_b ?_
      refine imp ex_i64_b ?_
      refine imp ex_i64_b ?_
      refine imp ex_i64_b ?_
      refine imp ex_i64_b ?_
      refine imp ex_i64_b ?_
      refine imp (opP_of (show _ = some ((intA (if x66 > x65 then x66 else x65)), []) from (by kernel_rfl))) ?_
      refine imp ex_i64_b ?_
      refine bind_b fun x68 h68 => ?_
      refine imp (callW_D (show PureD _ _ _ _ _ _ (AV.tup [(lstA intE x68.1), (ownV intE 283 x68.2.1), (intA x68.2.2)]) [(283, ownB intE 3 x68.2.1)] from m2g29C h68)) ?_
      refine imp exT3_b ?_
      refine imp ex_i64_b ?_
      refine cond_b (fun _ => ?_) (fun _ => ?_)
      · refine imp (opP_of (show _ = some ((intA (x67.1.length : Int)), []) from rfl)) ?_
        refine imp ex_i64_b ?_
        refine imp (opP_of (show _ = some ((intA (x67.2.1.length : Int)), []) from len_own)) ?_
        refine imp ex_i64_b ?_
        exact fun hg => ret1 (hR _ (Option.some.inj hg).symm) (fz_sc _ _)
      · refine imp (opP_of (show _ = some ((intA (a0.length : Int)), []) from rfl)) ?_
        refine imp ex_i64_b ?_
        refine cond_b (fun _ => ?_) (fun _ => ?_)
        · refine imp (opP_of (show _ = some ((intA (x67.1.length : Int)), []) from rfl)) ?_
          refine imp ex_i64_b ?_
          refine imp (opP_of (show _ = some ((intA (x67.2.1.length : Int)), []) from len_own)) ?_
          refine imp ex_i64_b ?_
          exact fun hg => ret1 (hR _ (Option.some.inj hg).symm) (fz_sc _ _)
        · refine bind_b fun x76 h76 => ?_
          refine imp (callQ_says (sg30 h76)) ?_
          refine imp exT2_b ?_
          refine imp ex_i64_b ?_
          refine imp ex_i64_b ?_
          refine cond_b (fun _ => ?_) (fun _ => ?_)
          · exact fun hg => ret1 (hR _ (Option.some.inj hg).symm) (fz_sc _ _)
          · refine cond_b (fun _ => ?_) (fun _ => ?_)
            · exact fun hg => ret1 (hR _ (Option.some.inj hg).symm) (fz_sc _ _)
            · refine imp (opP_of (show _ = some ((intA (if x66 < x65 then x66 else x65)), []) from (by kernel_rfl))) ?_
              refine imp ex_i64_b ?_
              refine cond_b (fun _ => ?_) (fun _ => ?_)
              · exact fun hg => ret1 (hR _ (Option.some.inj hg).symm) (fz_sc _ _)
              · refine imp (opP_of (show _ = some ((intA (x67.2.1.length : Int)), []) from len_own)) ?_
                refine imp ex_i64_b ?_
                refine imp (opP_of (show _ = some ((intA (a0.length : Int)), []) from rfl)) ?_
                refine imp ex_i64_b ?_
                refine cond_b (fun _ => ?_) (fun _ => ?_)
                · exact fun hg => ret1 (hR _ (Option.some.inj hg).symm) (fz_sc _ _)
                · refine imp (opP_of (show _ = some ((intA (x68.2.1.length : Int)), []) from len_own)) ?_
                  refine imp ex_i64_b ?_
                  refine imp (opP_of (show _ = some ((intA (a0.length : Int)), []) from rfl)) ?_
                  refine imp ex_i64_b ?_
                  refine cond_b (fun _ => ?_) (fun _ => ?_)
                  · exact fun hg => ret1 (hR _ (Option.some.inj hg).symm) (fz_sc _ _)
                  · refine imp (opP_of (show _ = some ((intA (x68.2.1.length : Int)), []) from len_own)) ?_
                    refine imp ex_i64_b ?_
                    refine bind_b fun x77 h77 => ?_
                    refine imp (opP_of (show _ = some ((AV.ptr 283 ((((IntKind.wrap .i64 ((x68.2.1.length : Int) - (1))) : Int).toNat) * 1 + 0)), []) from (idx_own (E := intE) rfl h77))) ?_
                    refine imp (opP_of (show _ = some ((intA x77), []) from (ldS_blk (E := intE) (l := x68.2.1) (ty := 3) (o := 0) (own_some (ty := 3) (by first | rfl | (simp (disch := first | decide | assumption) only [mpushs_nil, mpushs_cons, mget_hd, mget_tl, mget_appW_o, mget_appW_n, mget_appW_e])) (getI_some h77).2) (getI_some h77).2 rfl (by decide) rfl))) ?_
                    refine imp ex_i64_b ?_
                    refine imp (opP_of (show _ = some ((intA (x67.2.1.length : Int)), []) from len_own)) ?_
                    refine imp ex_i64_b ?_
                    refine bind_b fun x78 h78 => ?_
                    refine imp (opP_of (show _ = some ((AV.ptr 207 ((((IntKind.wrap .i64 ((x67.2.1.length : Int) - (1))) : Int).toNat) * 1 + 0)), []) from (idx_own (E := intE) rfl h78))) ?_
                    refine imp (opP_of (show _ = some ((intA x78), []) from (ldS_blk (E := intE) (l := x67.2.1) (ty := 3) (o := 0) (own_some (ty := 3) (by first | rfl | (simp (disch := first | decide | assumption) only [mpushs_nil, mpushs_cons, mget_hd, mget_tl, mget_appW_o, mget_appW_n, mget_appW_e])) (getI_some h78).2) (getI_some h78).2 rfl (by decide) rfl))) ?_
                    refine imp ex_i64_b ?_
                    refine cond_b (fun _ => ?_) (fun _ => ?_)
                    · exact fun hg => ret1 (hR _ (Option.some.inj hg).symm) (fz_sc _ _)
                    · refine bind_b fun x79 h79 => ?_
                      refine imp (callQ_says (sg31 h79)) ?_
                      refine imp exT2_b ?_
                      refine imp ex_i64_b ?_
                      refine imp (opP_of (show _ = some ((AV.agg [(intA a1.c0_0), (intA a1.c0_1), (intA a1.c0_2), (intA a1.c0_3), (intA a1.c1_0), (intA a1.c1_1), (intA a1.c1_2), (intA a1.c1_3), (intA a1.c2_0), (intA a1.c2_1), (intA a1.c2_2), (intA a1.c2_3), (intA a1.c3_0), (intA a1.c3_1), (intA a1.c3_2), (intA a1.c3_3)]), []) from (ldA_ptr (b := ⟨[(intA a1.c0_0), (intA a1.c0_1), (intA a1.c0_2), (intA a1.c0_3), (intA a1.c1_0), (intA a1.c1_1), (intA a1.c1_2), (intA a1.c1_3), (intA a1.c2_0), (intA a1.c2_1), (intA a1.c2_2), (intA a1.c2_3), (intA a1.c3_0), (intA a1.c3_1), (intA a1.c3_2), (intA a1.c3_3)], 24⟩) (by first | rfl | (simp (disch := first | decide | assumption) only [mpushs_nil, mpushs_cons, mget_hd, mget_tl, mget_appW_o, mget_appW_n, mget_appW_e])) rfl))) ?_
                      refine imp exA16_b ?_
                      refine imp ex_i64_b ?_
                      refine imp ex_i64_b ?_
                      refine imp ex_i64_b ?_
                      refine imp ex_i64_b ?_
                      refine imp ex_i64_b ?_
                      refine imp ex_i64_b ?_
                      refine imp ex_i64_b ?_
                      refine imp ex_i64_b ?_
                      refine imp ex_i64_b ?_
                      refine imp ex_i64_b ?_
                      refine imp ex_i64_b ?_
                      refine imp ex_i64_b ?_
                      refine imp ex_i64_b ?_
                      refine imp ex_i64_b ?_
                      refine imp ex_i64_b ?_
                      refine imp ex_i64_b ?_
                      refine bind_b fun x84 h84 => ?_
                      refine imp (callQ_says (sg32 h84)) ?_
                      refine imp exT2_b ?_
                      refine imp ex_i64_b ?_
                      refine cond_b (fun _ => ?_) (fun _ => ?_)
                      · refine cond_b (fun _ => ?_) (fun _ => ?_)
                        · exact fun hg => ret1 (hR _ (Option.some.inj hg).symm) (fz_sc _ _)
                        · refine imp (opP_of (show _ = some ((intA (x84.1.length : Int)), []) from rfl)) ?_
                          refine imp ex_i64_b ?_
                          refine imp (opP_of (show _ = some ((intA (a0.length : Int)), []) from rfl)) ?_
                          refine imp ex_i64_b ?_
                          refine cond_b (fun _ => ?_) (fun _ => ?_)
                          · refine imp (opP_of (show _ = some ((intA (x67.2.1.length : Int)), []) from len_own)) ?_
                            refine imp ex_i64_b ?_
                            refine bind_b fun x85 h85 => ?_
                            refine imp (opP_of (show _ = some ((AV.ptr 207 ((((IntKind.wrap .i64 ((x67.2.1.length : Int) - (1))) : Int).toNat) * 1 + 0)), []) from (idx_own (E := intE) rfl h85))) ?_
                            refine imp (opP_of (show _ = some ((intA x85), []) from (ldS_blk (E := intE) (l := x67.2.1) (ty := 3) (o := 0) (own_some (ty := 3) (by first | rfl | (simp (disch := first | decide | assumption) only [mpushs_nil, mpushs_cons, mget_hd, mget_tl, mget_appW_o, mget_appW_n, mget_appW_e])) (getI_some h85).2) (getI_some h85).2 rfl (by decide) rfl))) ?_
                            refine imp ex_i64_b ?_
                            refine imp (opP_of (show _ = some ((intA (x84.1.length : Int)), []) from rfl)) ?_
                            refine imp ex_i64_b ?_
                            refine bind_b fun x86 h86 => ?_
                            refine imp (opP_of (show _ = some ((AV.ept [(intA x86)] 0), []) from (idx_lst (E := intE) rfl h86))) ?_
                            refine imp (opP_of (show _ = some ((intA x86), []) from rfl)) ?_
                            refine imp ex_i64_b ?_
                            exact fun hg => ret1 (hR _ (Option.some.inj hg).symm) (fz_sc _ _)
                          · exact fun hg => ret1 (hR _ (Option.some.inj hg).symm) (fz_sc _ _)
                      · exact fun hg => ret1 (hR _ (Option.some.inj hg).symm) (fz_sc _ _)
theorem sg8 {n : Nat} {a0 : List TSequenceArrival} {a1 : TWakeTable} {a2 : Int} {a3 : Int} {t : ρ8} (h : g8 n a0 a1 a2 a3 = some t) : Says Try.prog KK.gl 8 [(lstA TSequenceArrival.E a0), (AV.agg [(intA a1.c0_0), (intA a1.c0_1), (intA a1.c0_2), (intA a1.c0_3), (intA a1.c1_0), (intA a1.c1_1), (intA a1.c1_2), (intA a1.c1_3), (intA a1.c2_0), (intA a1.c2_1), (intA a1.c2_2), (intA a1.c2_3), (intA a1.c3_0), (intA a1.c3_1), (intA a1.c3_2), (intA a1.c3_3)]), (intA a2), (intA a3)] ((boolA t)) :=
  says_of_own (by first | rfl | simp [cleans, clean, encs_clean, En.cln]) (by first | rfl | simp [cleans, clean, encs_clean, En.cln]) (F8_own (lstA TSequenceArrival.E a0) a1.c0_0 a1.c0_1 a1.c0_2 a1.c0_3 a1.c1_0 a1.c1_1 a1.c1_2 a1.c1_3 a1.c2_0 a1.c2_1 a1.c2_2 a1.c2_3 a1.c3_0 a1.c3_1 a1.c3_2 a1.c3_3 a2 a3 _ (g8_ok n a0 a1 a2 a3 (Ans ((boolA t))) (fun r e u m h => by rw [e]; exact h) h))
/- slices.Equal[[]int,int] -/
theorem B34_0_ok (n : Nat) (a0 : List Int) (a1 : List Int) (c4 : Bool) (c12 : Int) (v13 : Int) {t : (Int) ⊕ ρ34} (R : AV → Mem → Prop) (N0 : St → Prop) (hR : ∀ r : ρ34, t = (.inr r) → ∀ u m, Ans ((boolA r)) u m → R u m) (hN0 : ∀ y : Int, t = (.inl y) → ∀ s' : St, Weak KK 26 0 s' (h34_0 (lstA intE a0) (lstA intE a1) c4 c12 y []) → N0 s') : S34_0 n a0 a1 c4 c12 v13 = some t → B34_0 (lstA intE a0) (lstA intE a1) c4 c12 v13 [] R N0 := by
  unfold S34_0 B34_0
  refine cond_b (fun _ => ?_) (fun _ => ?_)
  · refine bind_b fun x102 h102 => ?_
    refine imp (opP_of (show _ = some ((AV.ept [(intA x102)] 0), []) from (idx_lst (E := intE) rfl h102))) ?_
    refine imp (opP_of (show _ = some ((intA x102), []) from rfl)) ?_
    refine imp ex_i64_b ?_
    refine bind_b fun x103 h103 => ?_
    refine imp (opP_of (show _ = some ((AV.ept [(intA x103)] 0), []) from (idx_lst (E := intE) rfl h103))) ?_
    refine imp (opP_of (show _ = some ((intA x103), []) from rfl)) ?_
    refine imp ex_i64_b ?_
    refine cond_b (fun _ => ?_) (fun _ => ?_)
    · exact fun hg => ret1 (hR _ (Option.some.inj hg).symm) (fz_sc _ _)
    · exact fun hg => hN0 _ (Option.some.inj hg).symm _ (weak_mem [] rfl rfl rfl (okW_cons (ent_lst (E := intE) _ false) (okW_cons (ent_lst (E := intE) _ false) (okW_cons (.inl (leV_refl _)) (okW_cons (.inl (leV_refl _)) (okW_cons (.inl (leV_refl _)) okW_nil))))) okB_nil')
  · exact fun hg => ret1 (hR _ (Option.some.inj hg).symm) (fz_sc _ _)
theorem L34_0_ok (n : Nat) (a0 : List Int) (a1 : List Int) (c4 : Bool) (c12 : Int) {t : ρ34} (R : AV → Mem → Prop) (hR : ∀ r : ρ34, t = r → ∀ u m, Ans ((boolA r)) u m → R u m) (k : Nat) (x : Int) (hx : iterO (fun y : Int => S34_0 n a0 a1 c4 c12 y) k x = some t) {s : St} (hw : Weak KK 26 0 s (h34_0 (lstA intE a0) (lstA intE a1) c4 c12 x [])) : Tri Try.prog KK 26 0 (.loop c34_0) s (q34_0 R ) :=
  L34_0 R  (σ := Nat × (Int)) (fun z => iterO (fun y : Int => S34_0 n a0 a1 c4 c12 y) z.1 z.2 = some t) (fun z => (lstA intE a0)) (fun z => (lstA intE a1)) (fun z => c4) (fun z => c12) (fun z => z.2) (fun z => []) (fun z => z.1) (by
    rintro ⟨k, y⟩ h
    cases k with
    | zero => exact (iterO_zero h).elim
    | succ k =>
      obtain ⟨u, h1, h2, h3⟩ := iterO_elim h
      exact B34_0_ok n a0 a1 c4 c12 y R  _ (fun r e => hR r (h3 _ e).symm)  (fun y' e s' hw => ⟨(k, y'), h2 _ e, Nat.lt_succ_self k, hw⟩) h1) (k, x) hx hw
theorem g34_ok (n : Nat) (a0 : List Int) (a1 : List Int) {t : ρ34} (R : AV → Mem → Prop) (hR : ∀ r : ρ34, t = r → ∀ u m, Ans ((boolA r)) u m → R u m) : g34 n a0 a1 = some t → F34 (lstA intE a0) (lstA intE a1) R := by
  unfold g34 F34
  refine imp (opP_of (show _ = some ((intA (a0.length : Int)), []) from rfl)) ?_
  refine imp ex_i64_b ?_
  refine imp (opP_of (show _ = some ((intA (a1.length : Int)), []) from rfl)) ?_
  refine imp ex_i64_b ?_
  refine cond_b (fun _ => ?_) (fun _ => ?_)
  · exact fun hg => ret1 (hR _ (Option.some.inj hg).symm) (fz_sc _ _)
  · refine imp (opP_of (show _ = some ((intA (a0.length : Int)), []) from rfl)) ?_
    refine imp ex_i64_b ?_
    exact fun hg => L34_0_ok n a0 a1 false (a0.length : Int) R  hR n _ hg (weak_mem [] rfl rfl rfl (okW_cons (ent_lst (E := intE) _ false) (okW_cons (ent_lst (E := intE) _ false) (okW_cons (.inl (leV_refl _)) (okW_cons (.inl (leV_refl _)) (okW_cons (.inl (leV_refl _)) okW_nil))))) okB_nil')
theorem sg34 {n : Nat} {a0 : List Int} {a1 : List Int} {t : ρ34} (h : g34 n a0 a1 = some t) : Says Try.prog KK.gl 34 [(lstA intE a0), (lstA intE a1)] ((boolA t)) :=
  says_of_own (by first | rfl | simp [cleans, clean, encs_clean, En.cln]) (by first | rfl | simp [cleans, clean, encs_clean, En.cln]) (F34_own (lstA intE a0) (lstA intE a1) _ (g34_ok n a0 a1 (Ans ((boolA t))) (fun r e u m h => by rw [e]; exact h) h))
/- skyway/skywaykeep3.SequenceShifts -/
theorem B9_1_ok (n : Nat) (x88 : Int) (c8 : Bool) (c11 : List Int) (c12 : List Int) (c13 : Int) (c14 : List Int) (c16 : Int) (c100 : Int) (v101 : Int) (L90000 : List Int) {t : (Int × List Int) ⊕ ρ9} (R : AV → Mem → Prop) (N0 : St → Prop) (hR : ∀ r : ρ9, t = (.inr r) → ∀ u m, Ans ((boolA r)) u m → R u m) (hN0 : ∀ y : Int × List Int, t = (.inl y) → ∀ s' : St, Weak KK 125 0 s' (h9_1 x88 c8 (lstA intE c11) (lstA intE c12) c13 (lstA intE c14) (ownV intE 90000 y.2) c16 c100 y.1 [(90000, ownB intE 3 y.2)]) → N0 s') : S9_1 n x88 c8 c11 c12 c13 c14 c16 c100 v101 L90000 = some t → B9_1 x88 c8 (lstA intE c11) (lstA intE c12) c13 (lstA intE c14) (ownV intE 90000 L90000) c16 c100 v101 [(90000, ownB intE 3 L90000)] R N0 := by
  unfold S9_1 B9_1
  refine cond_b (fun _ => ?_) (fun _ => ?_)
  · refine bind_b fun x100 h100 => ?_
    refine imp (opP_of (show _ = some ((AV.ptr 90000 (((v101 : Int).toNat) * 1 + 0)), []) from (idx_own (E := intE) rfl h100))) ?_
    refine imp (opP_of (show _ = some ((intA x100), []) from (ldS_blk (E := intE) (l := L90000) (ty := 3) (o := 0) (own_some (ty := 3) (by first | rfl | (simp (disch := first | decide | assumption) only [mpushs_nil, mpushs_cons, mget_hd, mget_tl, mget_appW_o, mget_appW_n, mget_appW_e])) (getI_some h100).2) (getI_some h100).2 rfl (by decide) rfl))) ?_
    refine imp ex_i64_b ?_
    refine bind_b fun x101 h101 => ?_
    refine imp (opP_of (show _ = some ((AV.ptr 90000 (((v101 : Int).toNat) * 1 + 0)), []) from (idx_own (E := intE) rfl h101))) ?_
    refine imp (storeW_elO (E := intE) (l := L90000) (i := ((v101 : Int).toNat)) (o := 0) (y := (IntKind.wrap .i64 (x100 - x88))) (ty := 3) (by kernel_rfl) (by kernel_rfl) rfl (by first | rfl | (simp (disch := first | decide | assumption) only [mpushs_nil, mpushs_cons, mget_hd, mget_tl, mget_appW_o, mget_appW_n, mget_appW_e])) (getI_some h101).2 rfl (by decide) rfl) ?_
    exact fun hg => hN0 _ (Option.some.inj hg).symm _ (weak_mem [(90000, 90000)] rfl rfl rfl (okW_cons (.inl (leV_refl _)) (okW_cons (.inl (leV_refl _)) (okW_cons (ent_lst (E := intE) _ false) (okW_cons (ent_lst (E := intE) _ false) (okW_cons (.inl (leV_refl _)) (okW_cons (ent_lst (E := intE) _ false) (okW_cons (ent_own (E := intE) (id := 90000) (l' := (L90000.set ((v101 : Int).toNat) (IntKind.wrap .i64 (x100 - x88)))) (by first | rfl | omega | (simp; done) | (simp; omega)) rfl) (okW_cons (.inl (leV_refl _)) (okW_cons (.inl (leV_refl _)) (okW_cons (.inl (leV_refl _)) okW_nil)))))))))) (okB_cons (okB_own (E := intE) (ty := 3) (l' := (L90000.set ((v101 : Int).toNat) (IntKind.wrap .i64 (x100 - x88)))) rfl (show mget _ 90000 = _ from (by first | rfl | (simp (disch := first | decide | assumption) only [mpushs_nil, mpushs_cons, mget_hd, mget_tl, mget_appW_o, mget_appW_n, mget_appW_e])))) okB_nil'))
  · refine cond_b (fun _ => ?_) (fun _ => ?_)
    · refine bind_b fun x104 h104 => ?_
      refine imp (callQ_says (sg34 h104)) ?_
      refine imp exB_b ?_
      refine cond_b (fun _ => ?_) (fun _ => ?_)
      · refine bind_b fun x105 h105 => ?_
        refine imp (callQ_pure (pure_snapN (snL_cons (sn_lst (E := intE) _ _ false) (snL_cons (sn_own (E := intE) (ty := 3) (l' := L90000) _ intE.nf rfl (by first | rfl | (simp (disch := first | decide | assumption) only [mpushs_nil, mpushs_cons, mget_hd, mget_tl, mget_appW_o, mget_appW_n, mget_appW_e]))) snL_nil)) (sg34 h105) rfl)) ?_
        refine imp exB_b ?_
        exact fun hg => ret1 (hR _ (Option.some.inj hg).symm) (fz_sc _ _)
      · exact fun hg => ret1 (hR _ (Option.some.inj hg).symm) (fz_sc _ _)
    · exact fun hg => ret1 (hR _ (Option.some.inj hg).symm) (fz_sc _ _)
theorem L9_1_ok (n : Nat) (x88 : Int) (c8 : Bool) (c11 : List Int) (c12 : List Int) (c13 : Int) (c14 : List Int) (c16 : Int) (c100 : Int) {t : ρ9} (R : AV → Mem → Prop) (hR : ∀ r : ρ9, t = r → ∀ u m, Ans ((boolA r)) u m → R u m) (k : Nat) (x : Int × List Int) (hx : iterO (fun y : Int × List Int => S9_1 n x88 c8 c11 c12 c13 c14 c16 c100 y.1 y.2) k x = some t) {s : St} (hw : Weak KK 125 0 s (h9_1 x88 c8 (lstA intE c11) (lstA intE c12) c13 (lstA intE c14) (ownV intE 90000 x.2) c16 c100 x.1 [(90000, ownB intE 3 x.2)])) : Tri Try.prog KK 125 0 (.loop c9_1) s (q9_1 R ) :=
  L9_1 R  (σ := Nat × (Int × List Int)) (fun z => iterO (fun y : Int × List Int => S9_1 n x88 c8 c11 c12 c13 c14 c16 c100 y.1 y.2) z.1 z.2 = some t) (fun z => x88) (fun z => c8) (fun z => (lstA intE c11)) (fun z => (lstA intE c12)) (fun z => c13) (fun z => (lstA intE c14)) (fun z => (ownV intE 90000 z.2.2)) (fun z => c16) (fun z => c100) (fun z => z.2.1) (fun z => [(90000, ownB intE 3 z.2.2)]) (fun z => z.1) (by
    rintro ⟨k, y⟩ h
    cases k with
    | zero => exact (iterO_zero h).elim
    | succ k =>
      obtain ⟨u, h1, h2, h3⟩ := iterO_elim h
      exact B9_1_ok n x88 c8 c11 c12 c13 c14 c16 c100 y.1 y.2 R  _ (fun r e => hR r (h3 _ e).symm)  (fun y' e s' hw => ⟨(k, y'), h2 _ e, Nat.lt_succ_self k, hw⟩) h1) (k, x) hx hw
theorem B9_0_ok (n : Nat) (a0 : List TSequenceArrival) (a2 : Int) (x88 : Int) (c8 : Bool) (c28 : Int) (k0_0 : Int) (k0_1 : Int) (k0_2 : Int) (k0_3 : Int) (k0_4 : Int) (k0_5 : Int) (k0_6 : Int) (k0_7 : Int) (k0_8 : Int) (k0_9 : Int) (k0_10 : Int) (k0_11 : Int) (k0_12 : Int) (k0_13 : Int) (k0_14 : Int) (k0_15 : Int) (v29 : Int) (L90000 : List TSequenceArrival) {t : (Int × List TSequenceArrival) ⊕ ρ9} (R : AV → Mem → Prop) (N0 : St → Prop) (hR : ∀ r : ρ9, t = (.inr r) → ∀ u m, Ans ((boolA r)) u m → R u m) (hN0 : ∀ y : Int × List TSequenceArrival, t = (.inl y) → ∀ s' : St, Weak KK 125 0 s' (h9_0 (lstA TSequenceArrival.E a0) a2 x88 c8 (ownV TSequenceArrival.E 90000 y.2) c28 y.1 [(90000, ownB TSequenceArrival.E 69 y.2), (0, some ⟨[(intA k0_0), (intA k0_1), (intA k0_2), (intA k0_3), (intA k0_4), (intA k0_5), (intA k0_6), (intA k0_7), (intA k0_8), (intA k0_9), (intA k0_10), (intA k0_11), (intA k0_12), (intA k0_13), (intA k0_14), (intA k0_15)], 24⟩)]) → N0 s') : S9_0 n a0 a2 x88 c8 c28 k0_0 k0_1 k0_2 k0_3 k0_4 k0_5 k0_6 k0_7 k0_8 k0_9 k0_10 k0_11 k0_12 k0_13 k0_14 k0_15 v29 L90000 = some t → B9_0 (lstA TSequenceArrival.E a0) a2 x88 c8 (ownV TSequenceArrival.E 90000 L90000) c28 v29 [(90000, ownB TSequenceArrival.E 69 L90000), (0, some ⟨[(intA k0_0), (intA k0_1), (intA k0_2), (intA k0_3), (intA k0_4), (intA k0_5), (intA k0_6), (intA k0_7), (intA k0_8), (intA k0_9), (intA k0_10), (intA k0_11), (intA k0_12), (intA k0_13), (intA k0_14), (intA k0_15)], 24⟩)] R N0 := by
  unfold S9_0 B9_0
  refine cond_b (fun _ => ?_) (fun _ => ?_)
  · refine bind_b fun x90 h90 => ?_
    refine imp (opP_of (show _ = some ((AV.ptr 90000 (((v29 : Int).toNat) * 4 + 0)), []) from (idx_own (E := TSequenceArrival.E) rfl h90))) ?_
    refine imp (opP_of (show _ = some ((AV.ptr 90000 (((v29 : Int).toNat) * 4 + 2)), []) from rfl)) ?_
    refine imp (opP_of (show _ = some ((intA x90.Time), []) from (ldS_blk (E := TSequenceArrival.E) (l := L90000) (ty := 69) (o := 2) (own_some (ty := 69) (by first | rfl | (simp (disch := first | decide | assumption) only [mpushs_nil, mpushs_cons, mget_hd, mget_tl, mget_appW_o, mget_appW_n, mget_appW_e])) (getI_some h90).2) (getI_some h90).2 rfl (by decide) rfl))) ?_
    refine imp ex_i64_b ?_
    refine cond_b (fun _ => ?_) (fun _ => ?_)
    · exact fun hg => ret1 (hR _ (Option.some.inj hg).symm) (fz_sc _ _)
    · refine bind_b fun x91 h91 => ?_
      refine imp (opP_of (show _ = some ((AV.ptr 90000 (((v29 : Int).toNat) * 4 + 0)), []) from (idx_own (E := TSequenceArrival.E) rfl h91))) ?_
      refine imp (opP_of (show _ = some ((AV.ptr 90000 (((v29 : Int).toNat) * 4 + 2)), []) from rfl)) ?_
      refine imp (opP_of (show _ = some ((intA x91.Time), []) from (ldS_blk (E := TSequenceArrival.E) (l := L90000) (ty := 69) (o := 2) (own_some (ty := 69) (by first | rfl | (simp (disch := first | decide | assumption) only [mpushs_nil, mpushs_cons, mget_hd, mget_tl, mget_appW_o, mget_appW_n, mget_appW_e])) (getI_some h91).2) (getI_some h91).2 rfl (by decide) rfl))) ?_
      refine imp ex_i64_b ?_
      refine cond_b (fun _ => ?_) (fun _ => ?_)
      · exact fun hg => ret1 (hR _ (Option.some.inj hg).symm) (fz_sc _ _)
      · refine bind_b fun x92 h92 => ?_
        refine imp (opP_of (show _ = some ((AV.ptr 90000 (((v29 : Int).toNat) * 4 + 0)), []) from (idx_own (E := TSequenceArrival.E) rfl h92))) ?_
        refine imp (opP_of (show _ = some ((AV.ptr 90000 (((v29 : Int).toNat) * 4 + 3)), []) from rfl)) ?_
        refine imp (opP_of (show _ = some ((intA x92.Latest), []) from (ldS_blk (E := TSequenceArrival.E) (l := L90000) (ty := 69) (o := 3) (own_some (ty := 69) (by first | rfl | (simp (disch := first | decide | assumption) only [mpushs_nil, mpushs_cons, mget_hd, mget_tl, mget_appW_o, mget_appW_n, mget_appW_e])) (getI_some h92).2) (getI_some h92).2 rfl (by decide) rfl))) ?_
        refine imp ex_i64_b ?_
        refine cond_b (fun _ => ?_) (fun _ => ?_)
        · exact fun hg => ret1 (hR _ (Option.some.inj hg).symm) (fz_sc _ _)
        · refine bind_b fun x93 h93 => ?_
          refine imp (opP_of (show _ = some ((AV.ptr 90000 (((v29 : Int).toNat) * 4 + 0)), []) from (idx_own (E := TSequenceArrival.E) rfl h93))) ?_
          refine imp (opP_of (show _ = some ((AV.ptr 90000 (((v29 : Int).toNat) * 4 + 3)), []) from rfl)) ?_
          refine imp (opP_of (show _ = some ((intA x93.Latest), []) from (ldS_blk (E := TSequenceArrival.E) (l := L90000) (ty := 69) (o := 3) (own_some (ty := 69) (by first | rfl | (simp (disch := first | decide | assumption) only [mpushs_nil, mpushs_cons, mget_hd, mget_tl, mget_appW_o, mget_appW_n, mget_appW_e])) (getI_some h93).2) (getI_some h93).2 rfl (by decide) rfl))) ?_
          refine imp ex_i64_b ?_
          refine cond_b (fun _ => ?_) (fun _ => ?_)
          · exact fun hg => ret1 (hR _ (Option.some.inj hg).symm) (fz_sc _ _)
          · refine bind_b fun x94 h94 => ?_
            refine imp (opP_of (show _ = some ((AV.ptr 90000 (((v29 : Int).toNat) * 4 + 0)), []) from (idx_own (E := TSequenceArrival.E) rfl h94))) ?_
            refine imp (opP_of (show _ = some ((AV.ptr 90000 (((v29 : Int).toNat) * 4 + 2)), []) from rfl)) ?_
            refine imp (opP_of (show _ = some ((intA x94.Time), []) from (ldS_blk (E := TSequenceArrival.E) (l := L90000) (ty := 69) (o := 2) (own_some (ty := 69) (by first | rfl | (simp (disch := first | decide | assumption) only [mpushs_nil, mpushs_cons, mget_hd, mget_tl, mget_appW_o, mget_appW_n, mget_appW_e])) (getI_some h94).2) (getI_some h94).2 rfl (by decide) rfl))) ?_
            refine imp ex_i64_b ?_
            refine bind_b fun x95 h95 => ?_
            refine imp (opP_of (show _ = some ((AV.ptr 90000 (((v29 : Int).toNat) * 4 + 0)), []) from (idx_own (E := TSequenceArrival.E) rfl h95))) ?_
            refine imp (opP_of (show _ = some ((AV.ptr 90000 (((v29 : Int).toNat) * 4 + 2)), []) from rfl)) ?_
            refine imp (storeW_elO (E := TSequenceArrival.E) (l := L90000) (i := ((v29 : Int).toNat)) (o := 2) (y := (⟨x95.Call, x95.Wake, (IntKind.wrap .i64 (x94.Time + x88)), x95.Latest⟩ : TSequenceArrival)) (ty := 69) (by kernel_rfl) (by kernel_rfl) rfl (by first | rfl | (simp (disch := first | decide | assumption) only [mpushs_nil, mpushs_cons, mget_hd, mget_tl, mget_appW_o, mget_appW_n, mget_appW_e])) (getI_some h95).2 rfl (by decide) rfl) ?_
            refine bind_b fun x96 h96 => ?_
            refine imp (opP_of (show _ = some ((AV.ptr 90000 (((v29 : Int).toNat) * 4 + 0)), []) from (idx_own (E := TSequenceArrival.E) (by first | rfl | omega | (simp; done) | (simp; omega)) h96))) ?_
            refine imp (opP_of (show _ = some ((AV.ptr 90000 (((v29 : Int).toNat) * 4 + 3)), []) from rfl)) ?_
            refine imp (opP_of (show _ = some ((intA x96.Latest), []) from (ldS_blk (E := TSequenceArrival.E) (l := (L90000.set ((v29 : Int).toNat) (⟨x95.Call, x95.Wake, (IntKind.wrap .i64 (x94.Time + x88)), x95.Latest⟩ : TSequenceArrival))) (ty := 69) (o := 3) (own_some (ty := 69) (by first | rfl | (simp (disch := first | decide | assumption) only [mpushs_nil, mpushs_cons, mget_hd, mget_tl, mget_appW_o, mget_appW_n, mget_appW_e])) (getI_some h96).2) (getI_some h96).2 rfl (by decide) rfl))) ?_
            refine imp ex_i64_b ?_
            refine bind_b fun x97 h97 => ?_
            refine imp (opP_of (show _ = some ((AV.ptr 90000 (((v29 : Int).toNat) * 4 + 0)), []) from (idx_own (E := TSequenceArrival.E) (by first | rfl | omega | (simp; done) | (simp; omega)) h97))) ?_
            refine imp (opP_of (show _ = some ((AV.ptr 90000 (((v29 : Int).toNat) * 4 + 3)), []) from rfl)) ?_
            refine imp (storeW_elO (E := TSequenceArrival.E) (l := (L90000.set ((v29 : Int).toNat) (⟨x95.Call, x95.Wake, (IntKind.wrap .i64 (x94.Time + x88)), x95.Latest⟩ : TSequenceArrival))) (i := ((v29 : Int).toNat)) (o := 3) (y := (⟨x97.Call, x97.Wake, x97.Time, (IntKind.wrap .i64 (x96.Latest + x88))⟩ : TSequenceArrival)) (ty := 69) (by kernel_rfl) (by kernel_rfl) rfl (by first | rfl | (simp (disch := first | decide | assumption) only [mpushs_nil, mpushs_cons, mget_hd, mget_tl, mget_appW_o, mget_appW_n, mget_appW_e])) (getI_some h97).2 rfl (by decide) rfl) ?_
            exact fun hg => hN0 _ (Option.some.inj hg).symm _ (weak_mem [(90000, 90000), (0, 0)] rfl rfl rfl (okW_cons (ent_lst (E := TSequenceArrival.E) _ false) (okW_cons (.inl (leV_refl _)) (okW_cons (.inl (leV_refl _)) (okW_cons (.inl (leV_refl _)) (okW_cons (.inl (leV_refl _)) (okW_cons (ent_own (E := TSequenceArrival.E) (id := 90000) (l' := ((L90000.set ((v29 : Int).toNat) (⟨x95.Call, x95.Wake, (IntKind.wrap .i64 (x94.Time + x88)), x95.Latest⟩ : TSequenceArrival)).set ((v29 : Int).toNat) (⟨x97.Call, x97.Wake, x97.Time, (IntKind.wrap .i64 (x96.Latest + x88))⟩ : TSequenceArrival))) (by first | rfl | omega | (simp; done) | (simp; omega)) rfl) (okW_cons (.inl (leV_refl _)) (okW_cons (.inl (leV_refl _)) okW_nil)))))))) (okB_cons (okB_own (E := TSequenceArrival.E) (ty := 69) (l' := ((L90000.set ((v29 : Int).toNat) (⟨x95.Call, x95.Wake, (IntKind.wrap .i64 (x94.Time + x88)), x95.Latest⟩ : TSequenceArrival)).set ((v29 : Int).toNat) (⟨x97.Call, x97.Wake, x97.Time, (IntKind.wrap .i64 (x96.Latest + x88))⟩ : TSequenceArrival))) rfl (show mget _ 90000 = _ from (by first | rfl | (simp (disch := first | decide | assumption) only [mpushs_nil, mpushs_cons, mget_hd, mget_tl, mget_appW_o, mget_appW_n, mget_appW_e])))) (okB_cons (okB_cells (cs := [(intA k0_0), (intA k0_1), (intA k0_2), (intA k0_3), (intA k0_4), (intA k0_5), (intA k0_6), (intA k0_7), (intA k0_8), (intA k0_9), (intA k0_10), (intA k0_11), (intA k0_12), (intA k0_13), (intA k0_14), (intA k0_15)]) (ty := 24) rfl (show mget _ 0 = _ from (by first | rfl | (simp (disch := first | decide | assumption) only [mpushs_nil, mpushs_cons, mget_hd, mget_tl, mget_appW_o, mget_appW_n, mget_appW_e])))) okB_nil')))
  · refine imp (opP_of (show _ = some ((AV.agg [(intA k0_0), (intA k0_1), (intA k0_2), (intA k0_3), (intA k0_4), (intA k0_5), (intA k0_6), (intA k0_7), (intA k0_8), (intA k0_9), (intA k0_10), (intA k0_11), (intA k0_12), (intA k0_13), (intA k0_14), (intA k0_15)]), []) from (ldA_ptr (b := ⟨[(intA k0_0), (intA k0_1), (intA k0_2), (intA k0_3), (intA k0_4), (intA k0_5), (intA k0_6), (intA k0_7), (intA k0_8), (intA k0_9), (intA k0_10), (intA k0_11), (intA k0_12), (intA k0_13), (intA k0_14), (intA k0_15)], 24⟩) (by first | rfl | (simp (disch := first | decide | assumption) only [mpushs_nil, mpushs_cons, mget_hd, mget_tl, mget_appW_o, mget_appW_n, mget_appW_e])) rfl))) ?_
    refine imp exA16_b ?_
    refine imp ex_i64_b ?_
    refine imp ex_i64_b ?_
    refine imp ex_i64_b ?_
    refine imp ex_i64_b ?_
    refine imp ex_i64_b ?_
    refine imp ex_i64_b ?_
    refine imp ex_i64_b ?_
    refine imp ex_i64_b ?_
    refine imp ex_i64_b ?_
    refine imp ex_i64_b ?_
    refine imp ex_i64_b ?_
    refine imp ex_i64_b ?_
    refine imp ex_i64_b ?_
    refine imp ex_i64_b ?_
    refine imp ex_i64_b ?_
    refine imp ex_i64_b ?_
    refine bind_b fun x98 h98 => ?_
    refine imp (callW_D (show PureD _ _ _ _ _ _ (AV.tup [(lstA intE x98.1), (ownV intE 100004 x98.2.1), (intA x98.2.2)]) [(100004, ownB intE 3 x98.2.1)] from m2g29C h98)) ?_
    refine imp exT3_b ?_
    refine imp ex_i64_b ?_
    refine imp (opP_of (show _ = some ((AV.agg [(intA k0_0), (intA k0_1), (intA k0_2), (intA k0_3), (intA k0_4), (intA k0_5), (intA k0_6), (intA k0_7), (intA k0_8), (intA k0_9), (intA k0_10), (intA k0_11), (intA k0_12), (intA k0_13), (intA k0_14), (intA k0_15)]), []) from (ldA_ptr (b := ⟨[(intA k0_0), (intA k0_1), (intA k0_2), (intA k0_3), (intA k0_4), (intA k0_5), (intA k0_6), (intA k0_7), (intA k0_8), (intA k0_9), (intA k0_10), (intA k0_11), (intA k0_12), (intA k0_13), (intA k0_14), (intA k0_15)], 24⟩) (by first | rfl | (simp (disch := first | decide | assumption) only [mpushs_nil, mpushs_cons, mget_hd, mget_tl, mget_appW_o, mget_appW_n, mget_appW_e])) rfl))) ?_
    refine imp exA16_b ?_
    refine imp ex_i64_b ?_
    refine imp ex_i64_b ?_
    refine imp ex_i64_b ?_
    refine imp ex_i64_b ?_
    refine imp ex_i64_b ?_
    refine imp ex_i64_b ?_
    refine imp ex_i64_b ?_
    refine imp ex_i64_b ?_
    refine imp ex_i64_b ?_
    refine imp ex_i64_b ?_
    refine imp ex_i64_b ?_
    refine imp ex_i64_b ?_
    refine imp ex_i64_b ?_
    refine imp ex_i64_b ?_
    refine imp ex_i64_b ?_
    refine imp ex_i64_b ?_
    refine bind_b fun x99 h99 => ?_
    refine imp (callW_D (show PureD _ _ _ _ _ _ (AV.tup [(lstA intE x99.1), (ownV intE 100078 x99.2.1), (intA x99.2.2)]) [(100078, ownB intE 3 x99.2.1)] from m2g29S h99 (snL_cons (sn_own (E := TSequenceArrival.E) (ty := 69) (l' := L90000) _ TSequenceArrival.nf rfl (by first | rfl | (simp (disch := first | decide | assumption) only [mpushs_nil, mpushs_cons, mget_hd, mget_tl, mget_appW_o, mget_appW_n, mget_appW_e]))) (snL_cons (sn_agg _ (snL_cons (sn_sc _ _) (snL_cons (sn_sc _ _) (snL_cons (sn_sc _ _) (snL_cons (sn_sc _ _) (snL_cons (sn_sc _ _) (snL_cons (sn_sc _ _) (snL_cons (sn_sc _ _) (snL_cons (sn_sc _ _) (snL_cons (sn_sc _ _) (snL_cons (sn_sc _ _) (snL_cons (sn_sc _ _) (snL_cons (sn_sc _ _) (snL_cons (sn_sc _ _) (snL_cons (sn_sc _ _) (snL_cons (sn_sc _ _) (snL_cons (sn_sc _ _) snL_nil))))))))))))))))) (snL_cons (sn_sc _ _) snL_nil))))) ?_
    refine imp exT3_b ?_
    refine imp ex_i64_b ?_
    refine imp (opP_of (show _ = some ((intA (x99.2.1.length : Int)), []) from len_own)) ?_
    refine imp ex_i64_b ?_
    refine mapInr_b fun t0 e0 => ?_
    exact fun hg => L9_1_ok n x88 c8 x98.1 x98.2.1 x98.2.2 x99.1 x99.2.2 (x99.2.1.length : Int) R  (fun r e => hR r (e0.trans (congrArg Sum.inr e))) n _ hg (weak_mem [(90000, 100078)] rfl rfl rfl (okW_cons (.inl (leV_refl _)) (okW_cons (.inl (leV_refl _)) (okW_cons (ent_lst (E := intE) _ false) (okW_cons (ent_own_frz (E := intE) (ty := 3) (l' := x98.2.1) rfl (by first | rfl | (simp (disch := first | decide | assumption) only [mpushs_nil, mpushs_cons, mget_hd, mget_tl, mget_appW_o, mget_appW_n, mget_appW_e])) rfl) (okW_cons (.inl (leV_refl _)) (okW_cons (ent_lst (E := intE) _ false) (okW_cons (ent_own (E := intE) (id := 100078) (l' := x99.2.1) rfl rfl) (okW_cons (.inl (leV_refl _)) (okW_cons (.inl (leV_refl _)) (okW_cons (.inl (leV_refl _)) okW_nil)))))))))) (okB_cons (okB_own (E := intE) (ty := 3) (l' := x99.2.1) rfl (show mget _ 100078 = _ from (by first | rfl | (simp (disch := first | decide | assumption) only [mpushs_nil, mpushs_cons, mget_hd, mget_tl, mget_appW_o, mget_appW_n, mget_appW_e])))) okB_nil'))
theorem L9_0_ok (n : Nat) (a0 : List TSequenceArrival) (a2 : Int) (x88 : Int) (c8 : Bool) (c28 : Int) (k0_0 : Int) (k0_1 : Int) (k0_2 : Int) (k0_3 : Int) (k0_4 : Int) (k0_5 : Int) (k0_6 : Int) (k0_7 : Int) (k0_8 : Int) (k0_9 : Int) (k0_10 : Int) (k0_11 : Int) (k0_12 : Int) (k0_13 : Int) (k0_14 : Int) (k0_15 : Int) {t : ρ9} (R : AV → Mem → Prop) (hR : ∀ r : ρ9, t = r → ∀ u m, Ans ((boolA r)) u m → R u m) (k : Nat) (x : Int × List TSequenceArrival) (hx : iterO (fun y : Int × List TSequenceArrival => S9_0 n a0 a2 x88 c8 c28 k0_0 k0_1 k0_2 k0_3 k0_4 k0_5 k0_6 k0_7 k0_8 k0_9 k0_10 k0_11 k0_12 k0_13 k0_14 k0_15 y.1 y.2) k x = some t) {s : St} (hw : Weak KK 125 0 s (h9_0 (lstA TSequenceArrival.E a0) a2 x88 c8 (ownV TSequenceArrival.E 90000 x.2) c28 x.1 [(90000, ownB TSequenceArrival.E 69 x.2), (0, some ⟨[(intA k0_0), (intA k0_1), (intA k0_2), (intA k0_3), (intA k0_4), (intA k0_5), (intA k0_6), (intA k0_7), (intA k0_8), (intA k0_9), (intA k0_10), (intA k0_11), (intA k0_12), (intA k0_13), (intA k0_14), (intA k0_15)], 24⟩)])) : Tri Try.prog KK 125 0 (.loop c9_0) s (q9_0 R ) :=
  L9_0 R  (σ := Nat × (Int × List TSequenceArrival)) (fun z => iterO (fun y : Int × List TSequenceArrival => S9_0 n a0 a2 x88 c8 c28 k0_0 k0_1 k0_2 k0_3 k0_4 k0_5 k0_6 k0_7 k0_8 k0_9 k0_10 k0_11 k0_12 k0_13 k0_14 k0_15 y.1 y.2) z.1 z.2 = some t) (fun z => (lstA TSequenceArrival.E a0)) (fun z => a2) (fun z => x88) (fun z => c8) (fun z => (ownV TSequenceArrival.E 90000 z.2.2)) (fun z => c28) (fun z => z.2.1) (fun z => [(90000, ownB TSequenceArrival.E 69 z.2.2), (0, some ⟨[(intA k0_0), (intA k0_1), (intA k0_2), (intA k0_3), (intA k0_4), (intA k0_5), (intA k0_6), (intA k0_7), (intA k0_8), (intA k0_9), (intA k0_10), (intA k0_11), (intA k0_12), (intA k0_13), (intA k0_14), (intA k0_15)], 24⟩)]) (fun z => z.1) (by
    rintro ⟨k, y⟩ h
    cases k with
    | zero => exact (iterO_zero h).elim
    | succ k =>
      obtain ⟨u, h1, h2, h3⟩ := iterO_elim h
      exact B9_0_ok n a0 a2 x88 c8 c28 k0_0 k0_1 k0_2 k0_3 k0_4 k0_5 k0_6 k0_7 k0_8 k0_9 k0_10 k0_11 k0_12 k0_13 k0_14 k0_15 y.1 y.2 R  _ (fun r e => hR r (h3 _ e).symm)  (fun y' e s' hw => ⟨(k, y'), h2 _ e, Nat.lt_succ_self k, hw⟩) h1) (k, x) hx hw
theorem g9_ok (n : Nat) (a0 : List TSequenceArrival) (a1 : TWakeTable) (a2 : Int) (a3 : Int) {t : ρ9} (R : AV → Mem → Prop) (hR : ∀ r : ρ9, t = r → ∀ u m, Ans ((boolA r)) u m → R u m) : g9 n a0 a1 a2 a3 = some t → F9 (lstA TSequenceArrival.E a0) a1.c0_0 a1.c0_1 a1.c0_2 a1.c0_3 a1.c1_0 a1.c1_1 a1.c1_2 a1.c1_3 a1.c2_0 a1.c2_1 a1.c2_2 a1.c2_3 a1.c3_0 a1.c3_1 a1.c3_2 a1.c3_3 a2 a3 R := by
  unfold g9 F9
  refine bind_b fun x87 h87 => ?_
  refine imp (callQ_says (sg28 h87)) ?_
  refine imp exB_b ?_
  refine cond_b (fun _ => ?_) (fun _ => ?_)
  · exact fun hg => ret1 (hR _ (Option.some.inj hg).symm) (fz_sc _ _)
  · refine imp (opP_of (show _ = some ((intA (a0.length : Int)), []) from rfl)) ?_
    refine imp ex_i64_b ?_
    refine cond_b (fun _ => ?_) (fun _ => ?_)
    · exact fun hg => ret1 (hR _ (Option.some.inj hg).symm) (fz_sc _ _)
    · refine bind_b fun x88 h88 => ?_
      refine imp (callQ_says (sg15 h88)) ?_
      refine imp ex_i64_b ?_
      refine bind_b fun x89 h89 => ?_
      refine imp (callW_D (show PureD _ _ _ _ _ _ (ownV TSequenceArrival.E 137 a0) [(137, ownB TSequenceArrival.E 69 a0)] from cloneC33 h89)) ?_
      refine imp (opP_of (show _ = some ((intA (a0.length : Int)), []) from len_own)) ?_
      refine imp ex_i64_b ?_
      exact fun hg => L9_0_ok n a0 a2 x88 false (a0.length : Int) a1.c0_0 a1.c0_1 a1.c0_2 a1.c0_3 a1.c1_0 a1.c1_1 a1.c1_2 a1.c1_3 a1.c2_0 a1.c2_1 a1.c2_2 a1.c2_3 a1.c3_0 a1.c3_1 a1.c3_2 a1.c3_3 R  hR n _ hg (weak_mem [(90000, 137), (0, 0)] rfl rfl rfl (okW_cons (ent_lst (E := TSequenceArrival.E) _ false) (okW_cons (.inl (leV_refl _)) (okW_cons (.inl (leV_refl _)) (okW_cons (.inl (leV_refl _)) (okW_cons (.inl (leV_refl _)) (okW_cons (ent_own (E := TSequenceArrival.E) (id := 137) (l' := a0) rfl rfl) (okW_cons (.inl (leV_refl _)) (okW_cons (.inl (leV_refl _)) okW_nil)))))))) (okB_cons (okB_own (E := TSequenceArrival.E) (ty := 69) (l' := a0) rfl (show mget _ 137 = _ from (by first | rfl | (simp (disch := first | decide | assumption) only [mpushs_nil, mpushs_cons, mget_hd, mget_tl, mget_appW_o, mget_appW_n, mget_appW_e])))) (okB_cons (okB_cells (cs := [(intA a1.c0_0), (intA a1.c0_1), (intA a1.c0_2), (intA a1.c0_3), (intA a1.c1_0), (intA a1.c1_1), (intA a1.c1_2), (intA a1.c1_3), (intA a1.c2_0), (intA a1.c2_1), (intA a1.c2_2), (intA a1.c2_3), (intA a1.c3_0), (intA a1.c3_1), (intA a1.c3_2), (intA a1.c3_3)]) (ty := 24) rfl (show mget _ 0 = _ from (by first | rfl | (simp (disch := first | decide | assumption) only [mpushs_nil, mpushs_cons, mget_hd, mget_tl, mget_appW_o, mget_appW_n, mget_appW_e])))) okB_nil')))
theorem sg9 {n : Nat} {a0 : List TSequenceArrival} {a1 : TWakeTable} {a2 : Int} {a3 : Int} {t : ρ9} (h : g9 n a0 a1 a2 a3 = some t) : Says Try.prog KK.gl 9 [(lstA TSequenceArrival.E a0), (AV.agg [(intA a1.c0_0), (intA a1.c0_1), (intA a1.c0_2), (intA a1.c0_3), (intA a1.c1_0), (intA a1.c1_1), (intA a1.c1_2), (intA a1.c1_3), (intA a1.c2_0), (intA a1.c2_1), (intA a1.c2_2), (intA a1.c2_3), (intA a1.c3_0), (intA a1.c3_1), (intA a1.c3_2), (intA a1.c3_3)]), (intA a2), (intA a3)] ((boolA t)) :=
  says_of_own (by first | rfl | simp [cleans, clean, encs_clean, En.cln]) (by first | rfl | simp [cleans, clean, encs_clean, En.cln]) (F9_own (lstA TSequenceArrival.E a0) a1.c0_0 a1.c0_1 a1.c0_2 a1.c0_3 a1.c1_0 a1.c1_1 a1.c1_2 a1.c1_3 a1.c2_0 a1.c2_1 a1.c2_2 a1.c2_3 a1.c3_0 a1.c3_1 a1.c3_2 a1.c3_3 a2 a3 _ (g9_ok n a0 a1 a2 a3 (Ans ((boolA t))) (fun r e u m h => by rw [e]; exact h) h))
end Go.Proofs.Ytfmodgffhbljoaa
