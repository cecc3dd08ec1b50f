/- Plain functional programs out of the program's functions, with proofs that the functions compute them; printed by wip/Ext.lean.txt. -/
import Derived.Test.YtldiackagnjlgaaLfH
set_option linter.unusedVariables false
set_option linter.unusedSimpArgs false
set_option maxRecDepth 100000
set_option maxHeartbeats 4000000
namespace Go.Proofs.Ytldiackagnjlgaa
/- skyway/skywaykeep3.LoadSums -/
theorem B7_1_ok (n : Nat) (a2 : Int) (c6 : Bool) (a1 : List (List TTubeNode)) (c48 : Int) (v8 : Int) (v49 : Int) {t : (Int × Int) ⊕ ρ7} (R : AV → Mem → Prop) (N0 : St → Prop) (hR : ∀ r : ρ7, t = (.inr r) → ∀ u m, Ans ((boolA r)) u m → R u m) (hN0 : ∀ y : Int × Int, t = (.inl y) → ∀ s' : St, Weak KK 66 0 s' (h7_1 a2 c6 y.1 (lstA (lstE TTubeNode.E) a1) c48 y.2 []) → N0 s') : S7_1 n a2 c6 a1 c48 v8 v49 = some t → B7_1 a2 c6 v8 (lstA (lstE TTubeNode.E) a1) c48 v49 [] R N0 := by
  unfold S7_1 B7_1
  refine cond_b (fun _ => ?_) (fun _ => ?_)
  · refine bind_b fun x195 h195 => ?_
    refine imp (opP_of (show _ = some ((AV.ept [(lstA TTubeNode.E x195)] 0), []) from (idx_lst (E := (lstE TTubeNode.E)) rfl h195))) ?_
    refine imp (opP_of (show _ = some ((lstA TTubeNode.E x195), []) from rfl)) ?_
    refine bind_b fun x196 h196 => ?_
    refine imp (callQ_says (sg20 h196)) ?_
    refine imp exT2_b ?_
    refine imp exA6_b ?_
    refine imp ex_i64_b ?_
    refine imp ex_i64_b ?_
    refine imp ex_i64_b ?_
    refine imp ex_i64_b ?_
    refine imp ex_i64_b ?_
    refine imp ex_i64_b ?_
    refine imp ex_i64_b ?_
    refine cond_b (fun _ => ?_) (fun _ => ?_)
    · exact fun hg => hN0 _ (Option.some.inj hg).symm _ (weak_mem [] rfl rfl rfl (okW_cons (.inl (leV_refl _)) (okW_cons (.inl (leV_refl _)) (okW_cons (.inl (leV_refl _)) (okW_cons (ent_lst (E := (lstE TTubeNode.E)) _ false) (okW_cons (.inl (leV_refl _)) (okW_cons (.inl (leV_refl _)) okW_nil)))))) okB_nil')
    · exact fun hg => hN0 _ (Option.some.inj hg).symm _ (weak_mem [] rfl rfl rfl (okW_cons (.inl (leV_refl _)) (okW_cons (.inl (leV_refl _)) (okW_cons (.inl (leV_refl _)) (okW_cons (ent_lst (E := (lstE TTubeNode.E)) _ false) (okW_cons (.inl (leV_refl _)) (okW_cons (.inl (leV_refl _)) okW_nil)))))) okB_nil')
  · exact fun hg => ret1 (hR _ (Option.some.inj hg).symm) (fz_sc _ _)
theorem L7_1_ok (n : Nat) (a2 : Int) (c6 : Bool) (a1 : List (List TTubeNode)) (c48 : Int) {t : ρ7} (R : AV → Mem → Prop) (hR : ∀ r : ρ7, t = r → ∀ u m, Ans ((boolA r)) u m → R u m) (k : Nat) (x : Int × Int) (hx : iterO (fun y : Int × Int => S7_1 n a2 c6 a1 c48 y.1 y.2) k x = some t) {s : St} (hw : Weak KK 66 0 s (h7_1 a2 c6 x.1 (lstA (lstE TTubeNode.E) a1) c48 x.2 [])) : Tri Try.prog KK 66 0 (.loop c7_1) s (q7_1 R ) :=
  L7_1 R  (σ := Nat × (Int × Int)) (fun z => iterO (fun y : Int × Int => S7_1 n a2 c6 a1 c48 y.1 y.2) z.1 z.2 = some t) (fun z => a2) (fun z => c6) (fun z => z.2.1) (fun z => (lstA (lstE TTubeNode.E) a1)) (fun z => c48) (fun z => z.2.2) (fun z => []) (fun z => z.1) (by
    rintro ⟨k, y⟩ h
    cases k with
    | zero => exact (iterO_zero h).elim
    | succ k =>
      obtain ⟨u, h1, h2, h3⟩ := iterO_elim h
      exact B7_1_ok n a2 c6 a1 c48 y.1 y.2 R  _ (fun r e => hR r (h3 _ e).symm)  (fun y' e s' hw => ⟨(k, y'), h2 _ e, Nat.lt_succ_self k, hw⟩) h1) (k, x) hx hw
theorem B7_0_ok (n : Nat) (a1 : List (List TTubeNode)) (a2 : Int) (c6 : Bool) (c35 : List Int) (c36 : Int) (v8 : Int) (v37 : Int) {t : (Int × Int) ⊕ ρ7} (R : AV → Mem → Prop) (N0 : St → Prop) (hR : ∀ r : ρ7, t = (.inr r) → ∀ u m, Ans ((boolA r)) u m → R u m) (hN0 : ∀ y : Int × Int, t = (.inl y) → ∀ s' : St, Weak KK 66 0 s' (h7_0 (lstA (lstE TTubeNode.E) a1) a2 c6 y.1 (lstA intE c35) c36 y.2 []) → N0 s') : S7_0 n a1 a2 c6 c35 c36 v8 v37 = some t → B7_0 (lstA (lstE TTubeNode.E) a1) a2 c6 v8 (lstA intE c35) c36 v37 [] R N0 := by
  unfold S7_0 B7_0
  refine cond_b (fun _ => ?_) (fun _ => ?_)
  · refine bind_b fun x194 h194 => ?_
    refine imp (opP_of (show _ = some ((AV.ept [(intA x194)] 0), []) from (idx_lst (E := intE) rfl h194))) ?_
    refine imp (opP_of (show _ = some ((intA x194), []) from rfl)) ?_
    refine imp ex_i64_b ?_
    refine cond_b (fun _ => ?_) (fun _ => ?_)
    · exact fun hg => ret1 (hR _ (Option.some.inj hg).symm) (fz_sc _ _)
    · exact fun hg => hN0 _ (Option.some.inj hg).symm _ (weak_mem [] rfl rfl rfl (okW_cons (ent_lst (E := (lstE TTubeNode.E)) _ false) (okW_cons (.inl (leV_refl _)) (okW_cons (.inl (leV_refl _)) (okW_cons (.inl (leV_refl _)) (okW_cons (ent_lst (E := intE) _ false) (okW_cons (.inl (leV_refl _)) (okW_cons (.inl (leV_refl _)) okW_nil))))))) okB_nil')
  · refine imp (opP_of (show _ = some ((intA (a1.length : Int)), []) from rfl)) ?_
    refine imp ex_i64_b ?_
    refine mapInr_b fun t0 e0 => ?_
    exact fun hg => L7_1_ok n a2 c6 a1 (a1.length : Int) R  (fun r e => hR r (e0.trans (congrArg Sum.inr e))) n _ hg (weak_mem [] rfl rfl rfl (okW_cons (.inl (leV_refl _)) (okW_cons (.inl (leV_refl _)) (okW_cons (.inl (leV_refl _)) (okW_cons (ent_lst (E := (lstE TTubeNode.E)) _ false) (okW_cons (.inl (leV_refl _)) (okW_cons (.inl (leV_refl _)) okW_nil)))))) okB_nil')
theorem L7_0_ok (n : Nat) (a1 : List (List TTubeNode)) (a2 : Int) (c6 : Bool) (c35 : List Int) (c36 : Int) {t : ρ7} (R : AV → Mem → Prop) (hR : ∀ r : ρ7, t = r → ∀ u m, Ans ((boolA r)) u m → R u m) (k : Nat) (x : Int × Int) (hx : iterO (fun y : Int × Int => S7_0 n a1 a2 c6 c35 c36 y.1 y.2) k x = some t) {s : St} (hw : Weak KK 66 0 s (h7_0 (lstA (lstE TTubeNode.E) a1) a2 c6 x.1 (lstA intE c35) c36 x.2 [])) : Tri Try.prog KK 66 0 (.loop c7_0) s (q7_0 R ) :=
  L7_0 R  (σ := Nat × (Int × Int)) (fun z => iterO (fun y : Int × Int => S7_0 n a1 a2 c6 c35 c36 y.1 y.2) z.1 z.2 = some t) (fun z => (lstA (lstE TTubeNode.E) a1)) (fun z => a2) (fun z => c6) (fun z => z.2.1) (fun z => (lstA intE c35)) (fun z => c36) (fun z => z.2.2) (fun z => []) (fun z => z.1) (by
    rintro ⟨k, y⟩ h
    cases k with
    | zero => exact (iterO_zero h).elim
    | succ k =>
      obtain ⟨u, h1, h2, h3⟩ := iterO_elim h
      exact B7_0_ok n a1 a2 c6 c35 c36 y.1 y.2 R  _ (fun r e => hR r (h3 _ e).symm)  (fun y' e s' hw => ⟨(k, y'), h2 _ e, Nat.lt_succ_self k, hw⟩) h1) (k, x) hx hw
theorem g7_ok (n : Nat) (a0 : List TSector) (a1 : List (List TTubeNode)) (a2 : Int) {t : ρ7} (R : AV → Mem → Prop) (hR : ∀ r : ρ7, t = r → ∀ u m, Ans ((boolA r)) u m → R u m) : g7 n a0 a1 a2 = some t → F7 (lstA TSector.E a0) (lstA (lstE TTubeNode.E) a1) a2 R := by
  unfold g7 F7
  refine bind_b fun x175 h175 => ?_
  refine imp (callQ_says (sg18 h175)) ?_
  refine imp exB_b ?_
  refine cond_b (fun _ => ?_) (fun _ => ?_)
  · exact fun hg => ret1 (hR _ (Option.some.inj hg).symm) (fz_sc _ _)
  · refine bind_b fun x193 h193 => ?_
    refine imp (callW_says (sg19 h193)) ?_
    refine imp exT3_b ?_
    refine imp ex_i64_b ?_
    refine imp ex_i64_b ?_
    refine cond_b (fun _ => ?_) (fun _ => ?_)
    · refine imp (opP_of (show _ = some ((intA (x193.1.length : Int)), []) from rfl)) ?_
      refine imp ex_i64_b ?_
      refine cond_b (fun _ => ?_) (fun _ => ?_)
      · exact fun hg => ret1 (hR _ (Option.some.inj hg).symm) (fz_sc _ _)
      · exact fun hg => ret1 (hR _ (Option.some.inj hg).symm) (fz_sc _ _)
    · refine imp (opP_of (show _ = some ((intA (x193.1.length : Int)), []) from rfl)) ?_
      refine imp ex_i64_b ?_
      exact fun hg => L7_0_ok n a1 a2 false x193.1 (x193.1.length : Int) R  hR n _ hg (weak_mem [] rfl rfl rfl (okW_cons (ent_lst (E := (lstE TTubeNode.E)) _ false) (okW_cons (.inl (leV_refl _)) (okW_cons (.inl (leV_refl _)) (okW_cons (.inl (leV_refl _)) (okW_cons (ent_lst (E := intE) _ false) (okW_cons (.inl (leV_refl _)) (okW_cons (.inl (leV_refl _)) okW_nil))))))) okB_nil')
theorem sg7 {n : Nat} {a0 : List TSector} {a1 : List (List TTubeNode)} {a2 : Int} {t : ρ7} (h : g7 n a0 a1 a2 = some t) : Says Try.prog KK.gl 7 [(lstA TSector.E a0), (lstA (lstE TTubeNode.E) a1), (intA a2)] ((boolA t)) :=
  says_of_own (by first | rfl | simp [cleans, clean, encs_clean, En.cln]) (by first | rfl | simp [cleans, clean, encs_clean, En.cln]) (F7_own (lstA TSector.E a0) (lstA (lstE TTubeNode.E) a1) a2 _ (g7_ok n a0 a1 a2 (Ans ((boolA t))) (fun r e u m h => by rw [e]; exact h) h))
end Go.Proofs.Ytldiackagnjlgaa
