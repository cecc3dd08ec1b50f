/- Plain functional programs out of the program's functions, with proofs that the functions compute them; printed by wip/Ext.lean.txt. -/
import Derived.Test.YtldiackagnjlgaaGreatX1E4
set_option linter.unusedVariables false
set_option linter.unusedSimpArgs false
set_option maxRecDepth 100000
set_option maxHeartbeats 4000000
namespace Go.Proofs.YtldiackagnjlgaaGreat
/- slices.IndexFunc[[]skyway/api.LoadOver,skyway/api.LoadOver] -/
theorem B14_0_ok (n : Nat) (a0 : List TLoadOver) (a1_0_0 : Int) (c4 : Int) (c7 : Int) (v8 : Int) {t : (Int) ⊕ ρ14} (R : AV → Mem → Prop) (N0 : St → Prop) (hR : ∀ r : ρ14, t = (.inr r) → ∀ u m, Ans ((intA r)) u m → R u m) (hN0 : ∀ y : Int, t = (.inl y) → ∀ s' : St, Weak KK 19 0 s' (h14_0 (lstA TLoadOver.E a0) (AV.fn 15 [(AV.ept [(intA a1_0_0)] 0)]) c4 c7 y []) → N0 s') : S14_0 n a0 a1_0_0 c4 c7 v8 = some t → B14_0 (lstA TLoadOver.E a0) (AV.fn 15 [(AV.ept [(intA a1_0_0)] 0)]) c4 c7 v8 [] R N0 := by
  unfold S14_0 B14_0
  refine cond_b (fun _ => ?_) (fun _ => ?_)
  · refine bind_b fun x205 h205 => ?_
    refine imp (opP_of (show _ = some ((AV.ept [(intA x205.Sector), (intA x205.From), (intA x205.To)] 0), []) from (idx_lst (E := TLoadOver.E) rfl h205))) ?_
    refine imp (opP_of (show _ = some ((AV.agg [(intA x205.Sector), (intA x205.From), (intA x205.To)]), []) from rfl)) ?_
    refine imp exA3_b ?_
    refine imp ex_i64_b ?_
    refine imp ex_i64_b ?_
    refine imp ex_i64_b ?_
    refine bind_b fun x206 h206 => ?_
    refine imp fnArgs_b ?_
    refine imp (cond_ff rfl) ?_
    refine imp (callW_says (sg15 h206)) ?_
    refine imp exB_b ?_
    refine cond_b (fun _ => ?_) (fun _ => ?_)
    · exact fun hg => ret1 (hR _ (Option.some.inj hg).symm) (fz_sc _ _)
    · exact fun hg => hN0 _ (Option.some.inj hg).symm _ (weak_mem [] rfl rfl rfl (okW_cons (ent_lst (E := TLoadOver.E) _ false) (okW_cons (ent_clean (leV_refl _) (by simp [clean, cleans, encs_clean])) (okW_cons (.inl (leV_refl _)) (okW_cons (.inl (leV_refl _)) (okW_cons (.inl (leV_refl _)) okW_nil))))) okB_nil')
  · exact fun hg => ret1 (hR _ (Option.some.inj hg).symm) (fz_sc _ _)
theorem L14_0_ok (n : Nat) (a0 : List TLoadOver) (a1_0_0 : Int) (c4 : Int) (c7 : Int) {t : ρ14} (R : AV → Mem → Prop) (hR : ∀ r : ρ14, t = r → ∀ u m, Ans ((intA r)) u m → R u m) (k : Nat) (x : Int) (hx : iterO (fun y : Int => S14_0 n a0 a1_0_0 c4 c7 y) k x = some t) {s : St} (hw : Weak KK 19 0 s (h14_0 (lstA TLoadOver.E a0) (AV.fn 15 [(AV.ept [(intA a1_0_0)] 0)]) c4 c7 x [])) : Tri Tryz.prog KK 19 0 (.loop c14_0) s (q14_0 R ) :=
  L14_0 R  (σ := Nat × (Int)) (fun z => iterO (fun y : Int => S14_0 n a0 a1_0_0 c4 c7 y) z.1 z.2 = some t) (fun z => (lstA TLoadOver.E a0)) (fun z => (AV.fn 15 [(AV.ept [(intA a1_0_0)] 0)])) (fun z => c4) (fun z => c7) (fun z => z.2) (fun z => []) (fun z => z.1) (by
    rintro ⟨k, y⟩ h
    cases k with
    | zero => exact (iterO_zero h).elim
    | succ k =>
      obtain ⟨u, h1, h2, h3⟩ := iterO_elim h
      exact B14_0_ok n a0 a1_0_0 c4 c7 y R  _ (fun r e => hR r (h3 _ e).symm)  (fun y' e s' hw => ⟨(k, y'), h2 _ e, Nat.lt_succ_self k, hw⟩) h1) (k, x) hx hw
theorem g14_ok (n : Nat) (a0 : List TLoadOver) (a1_0_0 : Int) {t : ρ14} (R : AV → Mem → Prop) (hR : ∀ r : ρ14, t = r → ∀ u m, Ans ((intA r)) u m → R u m) : g14 n a0 a1_0_0 = some t → F14 (lstA TLoadOver.E a0) (AV.fn 15 [(AV.ept [(intA a1_0_0)] 0)]) R := by
  unfold g14 F14
  refine imp (opP_of (show _ = some ((intA (a0.length : Int)), []) from rfl)) ?_
  refine imp ex_i64_b ?_
  exact fun hg => L14_0_ok n a0 a1_0_0 (0) (a0.length : Int) R  hR n _ hg (weak_mem [] rfl rfl rfl (okW_cons (ent_lst (E := TLoadOver.E) _ false) (okW_cons (ent_clean (leV_refl _) (by simp [clean, cleans, encs_clean])) (okW_cons (.inl (leV_refl _)) (okW_cons (.inl (leV_refl _)) (okW_cons (.inl (leV_refl _)) okW_nil))))) okB_nil')
theorem sg14 {n : Nat} {a0 : List TLoadOver} {a1_0_0 : Int} {t : ρ14} (h : g14 n a0 a1_0_0 = some t) : Says Tryz.prog KK.gl 14 [(lstA TLoadOver.E a0), (AV.fn 15 [(AV.ept [(intA a1_0_0)] 0)])] ((intA t)) :=
  says_of_own (by first | rfl | simp [cleans, clean, encs_clean, En.cln]) (by first | rfl | simp [cleans, clean, encs_clean, En.cln]) (F14_own (lstA TLoadOver.E a0) (AV.fn 15 [(AV.ept [(intA a1_0_0)] 0)]) _ (g14_ok n a0 a1_0_0 (Ans ((intA t))) (fun r e u m h => by rw [e]; exact h) h))
end Go.Proofs.YtldiackagnjlgaaGreat
