/- Plain functional programs out of the program's functions, with proofs that the functions compute them; printed by wip/Ext.lean.txt. -/
import Derived.Test.YtldiackagnjlgaaX1E4
import Derived.Test.YtldiackagnjlgaaLfH
set_option linter.unusedVariables false
set_option linter.unusedSimpArgs false
set_option maxRecDepth 100000
set_option maxHeartbeats 4000000
namespace Go.Proofs.Ytldiackagnjlgaa
/- skyway/skywaykeep3.LoadAdds -/
theorem B8_0_ok (n : Nat) (c8 : Bool) (c9 : List Int) (c12 : List Int) (c15 : List Int) (c85 : Int) (v86 : Int) {t : (Int) ⊕ ρ8} (R : AV → Mem → Prop) (N0 : St → Prop) (hR : ∀ r : ρ8, t = (.inr r) → ∀ u m, Ans ((boolA r)) u m → R u m) (hN0 : ∀ y : Int, t = (.inl y) → ∀ s' : St, Weak KK 104 0 s' (h8_0 c8 (lstA intE c9) (lstA intE c12) (lstA intE c15) c85 y []) → N0 s') : S8_0 n c8 c9 c12 c15 c85 v86 = some t → B8_0 c8 (lstA intE c9) (lstA intE c12) (lstA intE c15) c85 v86 [] R N0 := by
  unfold S8_0 B8_0
  refine cond_b (fun _ => ?_) (fun _ => ?_)
  · refine bind_b fun x168 h168 => ?_
    refine imp (opP_of (show _ = some ((AV.ept [(intA x168)] 0), []) from (idx_lst (E := intE) rfl h168))) ?_
    refine imp (opP_of (show _ = some ((intA x168), []) from rfl)) ?_
    refine imp ex_i64_b ?_
    refine bind_b fun x169 h169 => ?_
    refine imp (opP_of (show _ = some ((AV.ept [(intA x169)] 0), []) from (idx_lst (E := intE) rfl h169))) ?_
    refine imp (opP_of (show _ = some ((intA x169), []) from rfl)) ?_
    refine imp ex_i64_b ?_
    refine bind_b fun x170 h170 => ?_
    refine imp (opP_of (show _ = some ((AV.ept [(intA x170)] 0), []) from (idx_lst (E := intE) rfl h170))) ?_
    refine imp (opP_of (show _ = some ((intA x170), []) from rfl)) ?_
    refine imp ex_i64_b ?_
    refine cond_b (fun _ => ?_) (fun _ => ?_)
    · exact fun hg => ret1 (hR _ (Option.some.inj hg).symm) (fz_sc _ _)
    · exact fun hg => hN0 _ (Option.some.inj hg).symm _ (weak_mem [] rfl rfl rfl (okW_cons (.inl (leV_refl _)) (okW_cons (ent_lst (E := intE) _ false) (okW_cons (ent_lst (E := intE) _ false) (okW_cons (ent_lst (E := intE) _ false) (okW_cons (.inl (leV_refl _)) (okW_cons (.inl (leV_refl _)) okW_nil)))))) okB_nil')
  · exact fun hg => ret1 (hR _ (Option.some.inj hg).symm) (fz_sc _ _)
theorem L8_0_ok (n : Nat) (c8 : Bool) (c9 : List Int) (c12 : List Int) (c15 : List Int) (c85 : Int) {t : ρ8} (R : AV → Mem → Prop) (hR : ∀ r : ρ8, t = r → ∀ u m, Ans ((boolA r)) u m → R u m) (k : Nat) (x : Int) (hx : iterO (fun y : Int => S8_0 n c8 c9 c12 c15 c85 y) k x = some t) {s : St} (hw : Weak KK 104 0 s (h8_0 c8 (lstA intE c9) (lstA intE c12) (lstA intE c15) c85 x [])) : Tri Try.prog KK 104 0 (.loop c8_0) s (q8_0 R ) :=
  L8_0 R  (σ := Nat × (Int)) (fun z => iterO (fun y : Int => S8_0 n c8 c9 c12 c15 c85 y) z.1 z.2 = some t) (fun z => c8) (fun z => (lstA intE c9)) (fun z => (lstA intE c12)) (fun z => (lstA intE c15)) (fun z => c85) (fun z => z.2) (fun z => []) (fun z => z.1) (by
    rintro ⟨k, y⟩ h
    cases k with
    | zero => exact (iterO_zero h).elim
    | succ k =>
      obtain ⟨u, h1, h2, h3⟩ := iterO_elim h
      exact B8_0_ok n c8 c9 c12 c15 c85 y R  _ (fun r e => hR r (h3 _ e).symm)  (fun y' e s' hw => ⟨(k, y'), h2 _ e, Nat.lt_succ_self k, hw⟩) h1) (k, x) hx hw
theorem g8_ok (n : Nat) (a0 : List TSector) (a1 : List (List TTubeNode)) (a2 : List (List TTubeNode)) (a3 : Int) {t : ρ8} (R : AV → Mem → Prop) (hR : ∀ r : ρ8, t = r → ∀ u m, Ans ((boolA r)) u m → R u m) : g8 n a0 a1 a2 a3 = some t → F8 (lstA TSector.E a0) (lstA (lstE TTubeNode.E) a1) (lstA (lstE TTubeNode.E) a2) a3 R := by
  unfold g8 F8
  refine bind_b fun x144 h144 => ?_
  refine imp (callQ_says (sg18 h144)) ?_
  refine imp exB_b ?_
  refine cond_b (fun _ => ?_) (fun _ => ?_)
  · exact fun hg => ret1 (hR _ (Option.some.inj hg).symm) (fz_sc _ _)
  · refine bind_b fun x162 h162 => ?_
    refine imp (callW_says (sg19 h162)) ?_
    refine imp exT3_b ?_
    refine imp ex_i64_b ?_
    refine imp ex_i64_b ?_
    refine bind_b fun x163 h163 => ?_
    refine imp (callW_says (sg19 h163)) ?_
    refine imp exT3_b ?_
    refine imp ex_i64_b ?_
    refine imp ex_i64_b ?_
    refine imp (opN_of (show _ = some ((blkV (lstE (lstE TTubeNode.E)) 217 ([a1, a2] : List (List (List TTubeNode)))), [(217, some ⟨encs (lstE (lstE TTubeNode.E)) ([a1, a2] : List (List (List TTubeNode))), 27⟩)]) from rfl)) ?_
    refine bind_b fun x164 h164 => ?_
    refine imp (callW_D (show PureD _ _ _ _ _ _ (ownV (lstE TTubeNode.E) 218 x164) [(217, none), (218, ownB (lstE TTubeNode.E) 24 x164)] from pureD_frz rfl (by first | rfl | (simp (disch := first | decide | assumption) only [mpushs_nil, mpushs_cons, mget_hd, mget_tl, mget_appW_o, mget_appW_n, mget_appW_e])) (fun _ => catC21 h164))) ?_
    refine bind_b fun x165 h165 => ?_
    refine imp (callW_D (show PureD _ _ _ _ _ _ (AV.tup [(ownV intE 283 x165.1), (intA x165.2.1), (intA x165.2.2)]) [(283, ownB intE 3 x165.1)] from mg19S h165 (snL_cons (sn_lst (E := TSector.E) _ _ false) (snL_cons (sn_own (E := (lstE TTubeNode.E)) (ty := 24) (l' := x164) _ (lstE.nf TTubeNode.E) rfl (by first | rfl | (simp (disch := first | decide | assumption) only [mpushs_nil, mpushs_cons, mget_hd, mget_tl, mget_appW_o, mget_appW_n, mget_appW_e]))) (snL_cons (sn_sc _ _) snL_nil))))) ?_
    refine imp exT3_b ?_
    refine imp ex_i64_b ?_
    refine imp ex_i64_b ?_
    refine cond_b (fun _ => ?_) (fun _ => ?_)
    · exact fun hg => ret1 (hR _ (Option.some.inj hg).symm) (fz_sc _ _)
    · refine cond_b (fun _ => ?_) (fun _ => ?_)
      · exact fun hg => ret1 (hR _ (Option.some.inj hg).symm) (fz_sc _ _)
      · refine cond_b (fun _ => ?_) (fun _ => ?_)
        · exact fun hg => ret1 (hR _ (Option.some.inj hg).symm) (fz_sc _ _)
        · refine cond_b (fun _ => ?_) (fun _ => ?_)
          · exact fun hg => ret1 (hR _ (Option.some.inj hg).symm) (fz_sc _ _)
          · refine imp (opP_of (show _ = some ((intA (x162.1.length : Int)), []) from rfl)) ?_
            refine imp ex_i64_b ?_
            refine imp (opP_of (show _ = some ((intA (a0.length : Int)), []) from rfl)) ?_
            refine imp ex_i64_b ?_
            refine cond_b (fun _ => ?_) (fun _ => ?_)
            · exact fun hg => ret1 (hR _ (Option.some.inj hg).symm) (fz_sc _ _)
            · refine imp (opP_of (show _ = some ((intA (x163.1.length : Int)), []) from rfl)) ?_
              refine imp ex_i64_b ?_
              refine imp (opP_of (show _ = some ((intA (a0.length : Int)), []) from rfl)) ?_
              refine imp ex_i64_b ?_
              refine cond_b (fun _ => ?_) (fun _ => ?_)
              · exact fun hg => ret1 (hR _ (Option.some.inj hg).symm) (fz_sc _ _)
              · refine imp (opP_of (show _ = some ((intA (x165.1.length : Int)), []) from len_own)) ?_
                refine imp ex_i64_b ?_
                refine imp (opP_of (show _ = some ((intA (a0.length : Int)), []) from rfl)) ?_
                refine imp ex_i64_b ?_
                refine cond_b (fun _ => ?_) (fun _ => ?_)
                · exact fun hg => ret1 (hR _ (Option.some.inj hg).symm) (fz_sc _ _)
                · refine imp (opP_of (show _ = some ((intA (x165.1.length : Int)), []) from len_own)) ?_
                  refine imp ex_i64_b ?_
                  exact fun hg => L8_0_ok n false x162.1 x163.1 x165.1 (x165.1.length : Int) R  hR n _ hg (weak_mem [] rfl rfl rfl (okW_cons (.inl (leV_refl _)) (okW_cons (ent_lst (E := intE) _ false) (okW_cons (ent_lst (E := intE) _ false) (okW_cons (ent_own_frz (E := intE) (ty := 3) (l' := x165.1) rfl (by first | rfl | (simp (disch := first | decide | assumption) only [mpushs_nil, mpushs_cons, mget_hd, mget_tl, mget_appW_o, mget_appW_n, mget_appW_e])) rfl) (okW_cons (.inl (leV_refl _)) (okW_cons (.inl (leV_refl _)) okW_nil)))))) okB_nil')
theorem sg8 {n : Nat} {a0 : List TSector} {a1 : List (List TTubeNode)} {a2 : List (List TTubeNode)} {a3 : Int} {t : ρ8} (h : g8 n a0 a1 a2 a3 = some t) : Says Try.prog KK.gl 8 [(lstA TSector.E a0), (lstA (lstE TTubeNode.E) a1), (lstA (lstE TTubeNode.E) a2), (intA a3)] ((boolA t)) :=
  says_of_own (by first | rfl | simp [cleans, clean, encs_clean, En.cln]) (by first | rfl | simp [cleans, clean, encs_clean, En.cln]) (F8_own (lstA TSector.E a0) (lstA (lstE TTubeNode.E) a1) (lstA (lstE TTubeNode.E) a2) a3 _ (g8_ok n a0 a1 a2 a3 (Ans ((boolA t))) (fun r e u m h => by rw [e]; exact h) h))
end Go.Proofs.Ytldiackagnjlgaa
