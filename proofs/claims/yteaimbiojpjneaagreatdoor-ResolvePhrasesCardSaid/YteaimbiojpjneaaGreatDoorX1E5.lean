/- Plain functional programs out of the program's functions, with proofs that the functions compute them; printed by wip/Ext.lean.txt. -/
import Derived.Test.YteaimbiojpjneaaGreatDoorX1E4
import Derived.Test.YteaimbiojpjneaaGreatDoorRfH
set_option linter.unusedVariables false
set_option linter.unusedSimpArgs false
set_option maxRecDepth 100000
set_option maxHeartbeats 4000000
namespace Go.Proofs.YteaimbiojpjneaaGreatDoor
/- skyway/skywaykeep3.ResolvePhrases -/
theorem B3_0_ok (n : Nat) (a1 : ByteArray) (c8 : Bool) (c9 : List TClearance) (c29 : Int) (v30 : Int) {t : (Int) ⊕ ρ3} (R : AV → Mem → Prop) (N0 : St → Prop) (hR : ∀ r : ρ3, t = (.inr r) → ∀ u m, Ans ((boolA r)) u m → R u m) (hN0 : ∀ y : Int, t = (.inl y) → ∀ s' : St, Weak KK 55 0 s' (h3_0 a1 c8 (lstA TClearance.E c9) (lstA TClearance.E c9) c29 y []) → N0 s') : S3_0 n a1 c8 c9 c29 v30 = some t → B3_0 a1 c8 (lstA TClearance.E c9) (lstA TClearance.E c9) c29 v30 [] R N0 := by
  unfold S3_0 B3_0
  refine cond_b (fun _ => ?_) (fun _ => ?_)
  · refine bind_b fun x758 h758 => ?_
    refine iq (AV.ept [(strA x758.Call), (intA x758.Kind), (intA x758.Value), (strA x758.Fix)] 0) (idx_lst (E := TClearance.E) rfl h758) ?_
    refine iq (AV.agg [(strA x758.Call), (intA x758.Kind), (intA x758.Value), (strA x758.Fix)]) rfl ?_
    refine imp exA4_b ?_
    refine imp exStr_b ?_
    iterate 2 refine imp ex_i64_b ?_
    refine imp exStr_b ?_
    refine cond_b (fun _ => ?_) (fun _ => ?_)
    · exact fun hg => ret1 (hR _ (Option.some.inj hg).symm) (fz_sc _ _)
    · refine bind_b fun x759 h759 => ?_
      refine imp (callQ_says (sg8 h759)) ?_
      refine imp ex_i64_b ?_
      refine cond_b (fun _ => ?_) (fun _ => ?_)
      · exact fun hg => ret1 (hR _ (Option.some.inj hg).symm) (fz_sc _ _)
      · refine bind_b fun x760 h760 => ?_
        refine iq (lstA TClearance.E x760) (slc_hi (E := TClearance.E) (e := 32) (by kernel_rfl) (by kernel_rfl) rfl h760) ?_
        refine bind_b fun x763 h763 => ?_
        refine imp (callQ_says (sg9 h763)) ?_
        refine imp exB_b ?_
        refine cond_b (fun _ => ?_) (fun _ => ?_)
        · exact fun hg => ret1 (hR _ (Option.some.inj hg).symm) (fz_sc _ _)
        · exact fun hg => hN0 _ (Option.some.inj hg).symm _ (weak_mem [] rfl rfl rfl (okW_cons (.inl (leV_refl _)) (okW_cons (.inl (leV_refl _)) (okW_cons (ent_lst (E := TClearance.E) _ false) (okW_cons (ent_lst (E := TClearance.E) _ false) (okW_cons (.inl (leV_refl _)) (okW_cons (.inl (leV_refl _)) okW_nil)))))) okB_nil')
  · refine iq (intA (c9.length : Int)) rfl ?_
    refine imp ex_i64_b ?_
    exact fun hg => ret1 (hR _ (Option.some.inj hg).symm) (fz_sc _ _)
theorem L3_0_ok (n : Nat) (a1 : ByteArray) (c8 : Bool) (c9 : List TClearance) (c29 : Int) {t : ρ3} (R : AV → Mem → Prop) (hR : ∀ r : ρ3, t = r → ∀ u m, Ans ((boolA r)) u m → R u m) (k : Nat) (x : Int) (hx : iterO (fun y : Int => S3_0 n a1 c8 c9 c29 y) k x = some t) {s : St} (hw : Weak KK 55 0 s (h3_0 a1 c8 (lstA TClearance.E c9) (lstA TClearance.E c9) c29 x [])) : Tri pg KK 55 0 (.loop c3_0) s (q3_0 R ) :=
  L3_0 R  (σ := Nat × (Int)) (fun z => iterO (fun y : Int => S3_0 n a1 c8 c9 c29 y) z.1 z.2 = some t) (fun z => a1) (fun z => c8) (fun z => (lstA TClearance.E c9)) (fun z => (lstA TClearance.E c9)) (fun z => c29) (fun z => z.2) (fun z => []) (fun z => z.1) (by
    rintro ⟨k, y⟩ h
    cases k with
    | zero => exact (iterO_zero h).elim
    | succ k =>
      obtain ⟨u, h1, h2, h3⟩ := iterO_elim h
      exact B3_0_ok n a1 c8 c9 c29 y R  _ (fun r e => hR r (h3 _ e).symm)  (fun y' e s' hw => ⟨(k, y'), h2 _ e, Nat.lt_succ_self k, hw⟩) h1) (k, x) hx hw
theorem g3_ok (n : Nat) (a0 : List TTubeNode) (a1 : ByteArray) (a2 : Int) (a3 : TKind) {t : ρ3} (R : AV → Mem → Prop) (hR : ∀ r : ρ3, t = r → ∀ u m, Ans ((boolA r)) u m → R u m) : g3 n a0 a1 a2 a3 = some t → F3 (lstA TTubeNode.E a0) a1 a2 a3.Name a3.Wake a3.Ceiling a3.Climb a3.Descent a3.Slow a3.Fast R := by
  unfold g3 F3
  refine bind_b fun x721 h721 => ?_
  refine imp (callQ_says (sg6 h721)) ?_
  refine imp exB_b ?_
  refine cond_b (fun _ => ?_) (fun _ => ?_)
  · exact fun hg => ret1 (hR _ (Option.some.inj hg).symm) (fz_sc _ _)
  · refine bind_b fun x757 h757 => ?_
    refine imp (callQ_says (sg7 h757)) ?_
    refine imp exT2_b ?_
    refine imp ex_i64_b ?_
    refine cond_b (fun _ => ?_) (fun _ => ?_)
    · refine iq (intA (x757.1.length : Int)) rfl ?_
      refine imp ex_i64_b ?_
      exact fun hg => ret1 (hR _ (Option.some.inj hg).symm) (fz_sc _ _)
    · refine iq (intA (x757.1.length : Int)) rfl ?_
      refine imp ex_i64_b ?_
      exact fun hg => L3_0_ok n a1 false x757.1 (x757.1.length : Int) R  hR n _ hg (weak_mem [] rfl rfl rfl (okW_cons (.inl (leV_refl _)) (okW_cons (.inl (leV_refl _)) (okW_cons (ent_lst (E := TClearance.E) _ false) (okW_cons (ent_lst (E := TClearance.E) _ false) (okW_cons (.inl (leV_refl _)) (okW_cons (.inl (leV_refl _)) okW_nil)))))) okB_nil')
theorem sg3 {n : Nat} {a0 : List TTubeNode} {a1 : ByteArray} {a2 : Int} {a3 : TKind} {t : ρ3} (h : g3 n a0 a1 a2 a3 = some t) : Says pg KK.gl 3 [(lstA TTubeNode.E a0), (strA a1), (intA a2), (AV.agg [(strA a3.Name), (intA a3.Wake), (intA a3.Ceiling), (intA a3.Climb), (intA a3.Descent), (intA a3.Slow), (intA a3.Fast)])] ((boolA t)) :=
  says_of_own (by first | rfl | simp [cleans, clean, encs_clean, En.cln]) (by first | rfl | simp [cleans, clean, encs_clean, En.cln]) (F3_own (lstA TTubeNode.E a0) a1 a2 a3.Name a3.Wake a3.Ceiling a3.Climb a3.Descent a3.Slow a3.Fast _ (g3_ok n a0 a1 a2 a3 (Ans ((boolA t))) (fun r e u m h => by rw [e]; exact h) h))
end Go.Proofs.YteaimbiojpjneaaGreatDoor
