/- Plain functional programs out of the program's functions, with proofs that the functions compute them; printed by wip/Ext.lean.txt. -/
import Derived.Test.YtfmodgffhbljoaaX1G
import Derived.Test.YtfmodgffhbljoaaX1F1
set_option linter.unusedVariables false
set_option linter.unusedSimpArgs false
set_option maxRecDepth 100000
namespace Go.Proofs.Ytfmodgffhbljoaa
/- skyway/skywaykeep3.sequenceFact -/
theorem ev28 : evalsTo Try.prog KF 300 28 = some true := by decide +kernel
theorem sg28 {n : Nat} {t : ρ28} (h : g28 n = some t) : Says Try.prog KK.gl 28 [] (boolA t) := by
  cases h
  exact says_of_evals (K := KF) fol (k := 300) ev28
/- skyway/chart.Name -/
theorem B62_0_ok (n : Nat) (c2 : Bool) (c14 : List UInt8) (c15 : Int) (v16 : Int) {t : (Int) ⊕ ρ62} (R : AV → Mem → Prop) (N0 : St → Prop) (hR : ∀ r : ρ62, t = (.inr r) → ∀ u m, Ans ((boolA r)) u m → R u m) (hN0 : ∀ y : Int, t = (.inl y) → ∀ s' : St, Weak KK 41 0 s' (h62_0 c2 (lstA byteE c14) c15 y []) → N0 s') : S62_0 n c2 c14 c15 v16 = some t → B62_0 c2 (lstA byteE c14) c15 v16 [] R N0 := by
  unfold S62_0 B62_0
  refine cond_b (fun _ => ?_) (fun _ => ?_)
  · refine bind_b fun x3 h3 => ?_
    refine imp (opP_of (show _ = some ((AV.ept [(AV.sc (.int .u8 (x3.toNat : Int)))] 0), []) from (idx_lst (E := byteE) rfl h3))) ?_
    refine imp (opP_of (show _ = some ((AV.sc (.int .u8 (x3.toNat : Int))), []) from rfl)) ?_
    refine imp ex_u8_b ?_
    refine cond_b (fun _ => ?_) (fun _ => ?_)
    · refine cond_b (fun _ => ?_) (fun _ => ?_)
      · exact fun hg => hN0 _ (Option.some.inj hg).symm _ (weak_mem [] rfl rfl rfl (okW_cons (.inl (leV_refl _)) (okW_cons (ent_lst (E := byteE) _ false) (okW_cons (.inl (leV_refl _)) (okW_cons (.inl (leV_refl _)) okW_nil)))) okB_nil')
      · refine cond_b (fun _ => ?_) (fun _ => ?_)
        · refine cond_b (fun _ => ?_) (fun _ => ?_)
          · refine cond_b (fun _ => ?_) (fun _ => ?_)
            · exact fun hg => ret1 (hR _ (Option.some.inj hg).symm) (fz_sc _ _)
            · exact fun hg => hN0 _ (Option.some.inj hg).symm _ (weak_mem [] rfl rfl rfl (okW_cons (.inl (leV_refl _)) (okW_cons (ent_lst (E := byteE) _ false) (okW_cons (.inl (leV_refl _)) (okW_cons (.inl (leV_refl _)) okW_nil)))) okB_nil')
          · exact fun hg => ret1 (hR _ (Option.some.inj hg).symm) (fz_sc _ _)
        · exact fun hg => ret1 (hR _ (Option.some.inj hg).symm) (fz_sc _ _)
    · refine cond_b (fun _ => ?_) (fun _ => ?_)
      · refine cond_b (fun _ => ?_) (fun _ => ?_)
        · refine cond_b (fun _ => ?_) (fun _ => ?_)
          · exact fun hg => ret1 (hR _ (Option.some.inj hg).symm) (fz_sc _ _)
          · exact fun hg => hN0 _ (Option.some.inj hg).symm _ (weak_mem [] rfl rfl rfl (okW_cons (.inl (leV_refl _)) (okW_cons (ent_lst (E := byteE) _ false) (okW_cons (.inl (leV_refl _)) (okW_cons (.inl (leV_refl _)) okW_nil)))) okB_nil')
        · exact fun hg => ret1 (hR _ (Option.some.inj hg).symm) (fz_sc _ _)
      · exact fun hg => ret1 (hR _ (Option.some.inj hg).symm) (fz_sc _ _)
  · exact fun hg => ret1 (hR _ (Option.some.inj hg).symm) (fz_sc _ _)
theorem L62_0_ok (n : Nat) (c2 : Bool) (c14 : List UInt8) (c15 : Int) {t : ρ62} (R : AV → Mem → Prop) (hR : ∀ r : ρ62, t = r → ∀ u m, Ans ((boolA r)) u m → R u m) (k : Nat) (x : Int) (hx : iterO (fun y : Int => S62_0 n c2 c14 c15 y) k x = some t) {s : St} (hw : Weak KK 41 0 s (h62_0 c2 (lstA byteE c14) c15 x [])) : Tri Try.prog KK 41 0 (.loop c62_0) s (q62_0 R ) :=
  L62_0 R  (σ := Nat × (Int)) (fun z => iterO (fun y : Int => S62_0 n c2 c14 c15 y) z.1 z.2 = some t) (fun z => c2) (fun z => (lstA byteE c14)) (fun z => c15) (fun z => z.2) (fun z => []) (fun z => z.1) (by
    rintro ⟨k, y⟩ h
    cases k with
    | zero => exact (iterO_zero h).elim
    | succ k =>
      obtain ⟨u, h1, h2, h3⟩ := iterO_elim h
      exact B62_0_ok n c2 c14 c15 y R  _ (fun r e => hR r (h3 _ e).symm)  (fun y' e s' hw => ⟨(k, y'), h2 _ e, Nat.lt_succ_self k, hw⟩) h1) (k, x) hx hw
theorem g62_ok (n : Nat) (a0 : ByteArray) {t : ρ62} (R : AV → Mem → Prop) (hR : ∀ r : ρ62, t = r → ∀ u m, Ans ((boolA r)) u m → R u m) : g62 n a0 = some t → F62 a0 R := by
  unfold g62 F62
  refine imp (opP_of (show _ = some ((intA (a0.size : Int)), []) from (by kernel_rfl))) ?_
  refine imp ex_i64_b ?_
  refine cond_b (fun _ => ?_) (fun _ => ?_)
  · exact fun hg => ret1 (hR _ (Option.some.inj hg).symm) (fz_sc _ _)
  · refine imp (opP_of (show _ = some ((intA (a0.size : Int)), []) from (by kernel_rfl))) ?_
    refine imp ex_i64_b ?_
    refine cond_b (fun _ => ?_) (fun _ => ?_)
    · exact fun hg => ret1 (hR _ (Option.some.inj hg).symm) (fz_sc _ _)
    · refine bind_b fun x2 h2 => ?_
      refine imp (opP_of (show _ = some ((lstA byteE (a0.data.toList)), []) from (opA_bytes (e := 5) (by kernel_rfl) (by kernel_rfl) (by kernel_rfl) h2))) ?_
      refine imp (opP_of (show _ = some ((intA ((a0.data.toList).length : Int)), []) from rfl)) ?_
      refine imp ex_i64_b ?_
      exact fun hg => L62_0_ok n false (a0.data.toList) ((a0.data.toList).length : Int) R  hR n _ hg (weak_mem [] rfl rfl rfl (okW_cons (.inl (leV_refl _)) (okW_cons (ent_lst (E := byteE) _ false) (okW_cons (.inl (leV_refl _)) (okW_cons (.inl (leV_refl _)) okW_nil)))) okB_nil')
theorem sg62 {n : Nat} {a0 : ByteArray} {t : ρ62} (h : g62 n a0 = some t) : Says Try.prog KK.gl 62 [(strA a0)] ((boolA t)) :=
  says_of_own (by first | rfl | simp [cleans, clean, encs_clean, En.cln]) (by first | rfl | simp [cleans, clean, encs_clean, En.cln]) (F62_own a0 _ (g62_ok n a0 (Ans ((boolA t))) (fun r e u m h => by rw [e]; exact h) h))
/- skyway/wake.Class -/
theorem g37_ok (n : Nat) (a0 : Int) {t : ρ37} (R : AV → Mem → Prop) (hR : ∀ r : ρ37, t = r → ∀ u m, Ans ((intA r)) u m → R u m) : g37 n a0 = some t → F37 a0 R := by
  unfold g37 F37
  refine cond_b (fun _ => ?_) (fun _ => ?_)
  · exact fun hg => ret1 (hR _ (Option.some.inj hg).symm) (fz_sc _ _)
  · refine cond_b (fun _ => ?_) (fun _ => ?_)
    · exact fun hg => ret1 (hR _ (Option.some.inj hg).symm) (fz_sc _ _)
    · exact fun hg => ret1 (hR _ (Option.some.inj hg).symm) (fz_sc _ _)
theorem sg37 {n : Nat} {a0 : Int} {t : ρ37} (h : g37 n a0 = some t) : Says Try.prog KK.gl 37 [(intA a0)] ((intA t)) :=
  says_of_own (by first | rfl | simp [cleans, clean, encs_clean, En.cln]) (by first | rfl | simp [cleans, clean, encs_clean, En.cln]) (F37_own a0 _ (g37_ok n a0 (Ans ((intA t))) (fun r e u m h => by rw [e]; exact h) h))
/- skyway/sequence.Check$1 -/
theorem g64_ok (n : Nat) (a0 : TSequenceArrival) (a1_0 : ByteArray) (a1_1 : Int) (a1_2 : Int) (a1_3 : Int) {t : ρ64} (R : AV → Mem → Prop) (hR : ∀ r : ρ64, t = r → ∀ u m, Ans ((boolA r)) u m → R u m) : g64 n a0 a1_0 a1_1 a1_2 a1_3 = some t → F64 a0.Call a0.Wake a0.Time a0.Latest (AV.ept [(strA a1_0), (intA a1_1), (intA a1_2), (intA a1_3)] 0) R := by
  unfold g64 F64
  refine imp (opP_of (show _ = some ((AV.ept [(strA a1_0), (intA a1_1), (intA a1_2), (intA a1_3)] 0), []) from rfl)) ?_
  refine imp (opP_of (show _ = some ((strA a1_0), []) from rfl)) ?_
  refine imp exStr_b ?_
  exact fun hg => ret1 (hR _ (Option.some.inj hg).symm) (fz_sc _ _)
theorem sg64 {n : Nat} {a0 : TSequenceArrival} {a1_0 : ByteArray} {a1_1 : Int} {a1_2 : Int} {a1_3 : Int} {t : ρ64} (h : g64 n a0 a1_0 a1_1 a1_2 a1_3 = some t) : Says Try.prog KK.gl 64 [(AV.agg [(strA a0.Call), (intA a0.Wake), (intA a0.Time), (intA a0.Latest)]), (AV.ept [(strA a1_0), (intA a1_1), (intA a1_2), (intA a1_3)] 0)] ((boolA t)) :=
  says_of_own (by first | rfl | simp [cleans, clean, encs_clean, En.cln]) (by first | rfl | simp [cleans, clean, encs_clean, En.cln]) (F64_own a0.Call a0.Wake a0.Time a0.Latest (AV.ept [(strA a1_0), (intA a1_1), (intA a1_2), (intA a1_3)] 0) _ (g64_ok n a0 a1_0 a1_1 a1_2 a1_3 (Ans ((boolA t))) (fun r e u m h => by rw [e]; exact h) h))
/- slices.IndexFunc[[]skyway/api.SequenceArrival,skyway/api.SequenceArrival] -/
theorem B71_0_ok (n : Nat) (a0 : List TSequenceArrival) (a1_0_0 : ByteArray) (a1_0_1 : Int) (a1_0_2 : Int) (a1_0_3 : Int) (c4 : Int) (c7 : Int) (v8 : Int) {t : (Int) ⊕ ρ71} (R : AV → Mem → Prop) (N0 : St → Prop) (hR : ∀ r : ρ71, t = (.inr r) → ∀ u m, Ans ((intA r)) u m → R u m) (hN0 : ∀ y : Int, t = (.inl y) → ∀ s' : St, Weak KK 19 0 s' (h71_0 (lstA TSequenceArrival.E a0) (AV.fn 64 [(AV.ept [(strA a1_0_0), (intA a1_0_1), (intA a1_0_2), (intA a1_0_3)] 0)]) c4 c7 y []) → N0 s') : S71_0 n a0 a1_0_0 a1_0_1 a1_0_2 a1_0_3 c4 c7 v8 = some t → B71_0 (lstA TSequenceArrival.E a0) (AV.fn 64 [(AV.ept [(strA a1_0_0), (intA a1_0_1), (intA a1_0_2), (intA a1_0_3)] 0)]) c4 c7 v8 [] R N0 := by
  unfold S71_0 B71_0
  refine cond_b (fun _ => ?_) (fun _ => ?_)
  · refine bind_b fun x7 h7 => ?_
    refine imp (opP_of (show _ = some ((AV.ept [(strA x7.Call), (intA x7.Wake), (intA x7.Time), (intA x7.Latest)] 0), []) from (idx_lst (E := TSequenceArrival.E) rfl h7))) ?_
    refine imp (opP_of (show _ = some ((AV.agg [(strA x7.Call), (intA x7.Wake), (intA x7.Time), (intA x7.Latest)]), []) from rfl)) ?_
    refine imp exA4_b ?_
    refine imp exStr_b ?_
    refine imp ex_i64_b ?_
    refine imp ex_i64_b ?_
    refine imp ex_i64_b ?_
    refine bind_b fun x8 h8 => ?_
    refine imp fnArgs_b ?_
    refine imp (cond_ff rfl) ?_
    refine imp (callW_says (sg64 h8)) ?_
    refine imp exB_b ?_
    refine cond_b (fun _ => ?_) (fun _ => ?_)
    · exact fun hg => ret1 (hR _ (Option.some.inj hg).symm) (fz_sc _ _)
    · exact fun hg => hN0 _ (Option.some.inj hg).symm _ (weak_mem [] rfl rfl rfl (okW_cons (ent_lst (E := TSequenceArrival.E) _ false) (okW_cons (ent_clean (leV_refl _) (by simp [clean, cleans, encs_clean])) (okW_cons (.inl (leV_refl _)) (okW_cons (.inl (leV_refl _)) (okW_cons (.inl (leV_refl _)) okW_nil))))) okB_nil')
  · exact fun hg => ret1 (hR _ (Option.some.inj hg).symm) (fz_sc _ _)
theorem L71_0_ok (n : Nat) (a0 : List TSequenceArrival) (a1_0_0 : ByteArray) (a1_0_1 : Int) (a1_0_2 : Int) (a1_0_3 : Int) (c4 : Int) (c7 : Int) {t : ρ71} (R : AV → Mem → Prop) (hR : ∀ r : ρ71, t = r → ∀ u m, Ans ((intA r)) u m → R u m) (k : Nat) (x : Int) (hx : iterO (fun y : Int => S71_0 n a0 a1_0_0 a1_0_1 a1_0_2 a1_0_3 c4 c7 y) k x = some t) {s : St} (hw : Weak KK 19 0 s (h71_0 (lstA TSequenceArrival.E a0) (AV.fn 64 [(AV.ept [(strA a1_0_0), (intA a1_0_1), (intA a1_0_2), (intA a1_0_3)] 0)]) c4 c7 x [])) : Tri Try.prog KK 19 0 (.loop c71_0) s (q71_0 R ) :=
  L71_0 R  (σ := Nat × (Int)) (fun z => iterO (fun y : Int => S71_0 n a0 a1_0_0 a1_0_1 a1_0_2 a1_0_3 c4 c7 y) z.1 z.2 = some t) (fun z => (lstA TSequenceArrival.E a0)) (fun z => (AV.fn 64 [(AV.ept [(strA a1_0_0), (intA a1_0_1), (intA a1_0_2), (intA a1_0_3)] 0)])) (fun z => c4) (fun z => c7) (fun z => z.2) (fun z => []) (fun z => z.1) (by
    rintro ⟨k, y⟩ h
    cases k with
    | zero => exact (iterO_zero h).elim
    | succ k =>
      obtain ⟨u, h1, h2, h3⟩ := iterO_elim h
      exact B71_0_ok n a0 a1_0_0 a1_0_1 a1_0_2 a1_0_3 c4 c7 y R  _ (fun r e => hR r (h3 _ e).symm)  (fun y' e s' hw => ⟨(k, y'), h2 _ e, Nat.lt_succ_self k, hw⟩) h1) (k, x) hx hw
theorem g71_ok (n : Nat) (a0 : List TSequenceArrival) (a1_0_0 : ByteArray) (a1_0_1 : Int) (a1_0_2 : Int) (a1_0_3 : Int) {t : ρ71} (R : AV → Mem → Prop) (hR : ∀ r : ρ71, t = r → ∀ u m, Ans ((intA r)) u m → R u m) : g71 n a0 a1_0_0 a1_0_1 a1_0_2 a1_0_3 = some t → F71 (lstA TSequenceArrival.E a0) (AV.fn 64 [(AV.ept [(strA a1_0_0), (intA a1_0_1), (intA a1_0_2), (intA a1_0_3)] 0)]) R := by
  unfold g71 F71
  refine imp (opP_of (show _ = some ((intA (a0.length : Int)), []) from rfl)) ?_
  refine imp ex_i64_b ?_
  exact fun hg => L71_0_ok n a0 a1_0_0 a1_0_1 a1_0_2 a1_0_3 (0) (a0.length : Int) R  hR n _ hg (weak_mem [] rfl rfl rfl (okW_cons (ent_lst (E := TSequenceArrival.E) _ false) (okW_cons (ent_clean (leV_refl _) (by simp [clean, cleans, encs_clean])) (okW_cons (.inl (leV_refl _)) (okW_cons (.inl (leV_refl _)) (okW_cons (.inl (leV_refl _)) okW_nil))))) okB_nil')
theorem sg71 {n : Nat} {a0 : List TSequenceArrival} {a1_0_0 : ByteArray} {a1_0_1 : Int} {a1_0_2 : Int} {a1_0_3 : Int} {t : ρ71} (h : g71 n a0 a1_0_0 a1_0_1 a1_0_2 a1_0_3 = some t) : Says Try.prog KK.gl 71 [(lstA TSequenceArrival.E a0), (AV.fn 64 [(AV.ept [(strA a1_0_0), (intA a1_0_1), (intA a1_0_2), (intA a1_0_3)] 0)])] ((intA t)) :=
  says_of_own (by first | rfl | simp [cleans, clean, encs_clean, En.cln]) (by first | rfl | simp [cleans, clean, encs_clean, En.cln]) (F71_own (lstA TSequenceArrival.E a0) (AV.fn 64 [(AV.ept [(strA a1_0_0), (intA a1_0_1), (intA a1_0_2), (intA a1_0_3)] 0)]) _ (g71_ok n a0 a1_0_0 a1_0_1 a1_0_2 a1_0_3 (Ans ((intA t))) (fun r e u m h => by rw [e]; exact h) h))
/- slices.ContainsFunc[[]skyway/api.SequenceArrival,skyway/api.SequenceArrival] -/
theorem g63_ok (n : Nat) (a0 : List TSequenceArrival) (a1_0_0 : ByteArray) (a1_0_1 : Int) (a1_0_2 : Int) (a1_0_3 : Int) {t : ρ63} (R : AV → Mem → Prop) (hR : ∀ r : ρ63, t = r → ∀ u m, Ans ((boolA r)) u m → R u m) : g63 n a0 a1_0_0 a1_0_1 a1_0_2 a1_0_3 = some t → F63 (lstA TSequenceArrival.E a0) (AV.fn 64 [(AV.ept [(strA a1_0_0), (intA a1_0_1), (intA a1_0_2), (intA a1_0_3)] 0)]) R := by
  unfold g63 F63
  refine bind_b fun x9 h9 => ?_
  refine imp (callQ_says (sg71 h9)) ?_
  refine imp ex_i64_b ?_
  exact fun hg => ret1 (hR _ (Option.some.inj hg).symm) (fz_sc _ _)
theorem sg63 {n : Nat} {a0 : List TSequenceArrival} {a1_0_0 : ByteArray} {a1_0_1 : Int} {a1_0_2 : Int} {a1_0_3 : Int} {t : ρ63} (h : g63 n a0 a1_0_0 a1_0_1 a1_0_2 a1_0_3 = some t) : Says Try.prog KK.gl 63 [(lstA TSequenceArrival.E a0), (AV.fn 64 [(AV.ept [(strA a1_0_0), (intA a1_0_1), (intA a1_0_2), (intA a1_0_3)] 0)])] ((boolA t)) :=
  says_of_own (by first | rfl | simp [cleans, clean, encs_clean, En.cln]) (by first | rfl | simp [cleans, clean, encs_clean, En.cln]) (F63_own (lstA TSequenceArrival.E a0) (AV.fn 64 [(AV.ept [(strA a1_0_0), (intA a1_0_1), (intA a1_0_2), (intA a1_0_3)] 0)]) _ (g63_ok n a0 a1_0_0 a1_0_1 a1_0_2 a1_0_3 (Ans ((boolA t))) (fun r e u m h => by rw [e]; exact h) h))
/- skyway/sequence.Check -/
theorem B50_0_ok (n : Nat) (a0 : List TSequenceArrival) (c2 : Int) (c10 : Int) (v11 : Int) {t : (Int) ⊕ ρ50} (R : AV → Mem → Prop) (N0 : St → Prop) (hR : ∀ r : ρ50, t = (.inr r) → ∀ u m, Ans ((intA r)) u m → R u m) (hN0 : ∀ y : Int, t = (.inl y) → ∀ s' : St, Weak KK 49 0 s' (h50_0 (lstA TSequenceArrival.E a0) c2 (lstA TSequenceArrival.E a0) c10 y []) → N0 s') : S50_0 n a0 c2 c10 v11 = some t → B50_0 (lstA TSequenceArrival.E a0) c2 (lstA TSequenceArrival.E a0) c10 v11 [] R N0 := by
  unfold S50_0 B50_0
  refine cond_b (fun _ => ?_) (fun _ => ?_)
  · refine bind_b fun x1 h1 => ?_
    refine imp (opP_of (show _ = some ((AV.ept [(strA x1.Call), (intA x1.Wake), (intA x1.Time), (intA x1.Latest)] 0), []) from (idx_lst (E := TSequenceArrival.E) rfl h1))) ?_
    refine imp (opP_of (show _ = some ((AV.agg [(strA x1.Call), (intA x1.Wake), (intA x1.Time), (intA x1.Latest)]), []) from rfl)) ?_
    refine imp exA4_b ?_
    refine imp exStr_b ?_
    refine imp ex_i64_b ?_
    refine imp ex_i64_b ?_
    refine imp ex_i64_b ?_
    refine bind_b fun x4 h4 => ?_
    refine imp (callQ_says (sg62 h4)) ?_
    refine imp exB_b ?_
    refine cond_b (fun _ => ?_) (fun _ => ?_)
    · exact fun hg => ret1 (hR _ (Option.some.inj hg).symm) (fz_sc _ _)
    · refine bind_b fun x5 h5 => ?_
      refine imp (callQ_says (sg37 h5)) ?_
      refine imp ex_i64_b ?_
      refine cond_b (fun _ => ?_) (fun _ => ?_)
      · exact fun hg => ret1 (hR _ (Option.some.inj hg).symm) (fz_sc _ _)
      · refine cond_b (fun _ => ?_) (fun _ => ?_)
        · exact fun hg => ret1 (hR _ (Option.some.inj hg).symm) (fz_sc _ _)
        · refine cond_b (fun _ => ?_) (fun _ => ?_)
          · exact fun hg => ret1 (hR _ (Option.some.inj hg).symm) (fz_sc _ _)
          · refine cond_b (fun _ => ?_) (fun _ => ?_)
            · exact fun hg => ret1 (hR _ (Option.some.inj hg).symm) (fz_sc _ _)
            · refine bind_b fun x6 h6 => ?_
              refine imp (opP_of (show _ = some ((lstA TSequenceArrival.E x6), []) from (slc_hi (E := TSequenceArrival.E) (e := 69) (by kernel_rfl) (by kernel_rfl) rfl h6))) ?_
              refine bind_b fun x10 h10 => ?_
              refine imp (callQ_pure (pure_snapN (snL_cons (sn_lst (E := TSequenceArrival.E) _ _ false) (snL_cons (sn_fn _ _ (snL_cons (sn_ptr _ (ty := 69) (us := [(strA x1.Call), (intA x1.Wake), (intA x1.Time), (intA x1.Latest)]) (by first | rfl | (simp (disch := decide) only [mpushs_nil, mpushs_cons, mget_hd, mget_tl, mget_appW_o, mget_appW_n])) (snL_cons (sn_sc _ _) (snL_cons (sn_sc _ _) (snL_cons (sn_sc _ _) (snL_cons (sn_sc _ _) snL_nil))))) snL_nil)) snL_nil)) (sg63 h10) rfl)) ?_
              refine imp exB_b ?_
              refine cond_b (fun _ => ?_) (fun _ => ?_)
              · exact fun hg => ret1 (hR _ (Option.some.inj hg).symm) (fz_sc _ _)
              · exact fun hg => hN0 _ (Option.some.inj hg).symm _ (weak_mem [] rfl rfl rfl (okW_cons (ent_lst (E := TSequenceArrival.E) _ false) (okW_cons (.inl (leV_refl _)) (okW_cons (ent_lst (E := TSequenceArrival.E) _ false) (okW_cons (.inl (leV_refl _)) (okW_cons (.inl (leV_refl _)) okW_nil))))) okB_nil')
  · exact fun hg => ret1 (hR _ (Option.some.inj hg).symm) (fz_sc _ _)
theorem L50_0_ok (n : Nat) (a0 : List TSequenceArrival) (c2 : Int) (c10 : Int) {t : ρ50} (R : AV → Mem → Prop) (hR : ∀ r : ρ50, t = r → ∀ u m, Ans ((intA r)) u m → R u m) (k : Nat) (x : Int) (hx : iterO (fun y : Int => S50_0 n a0 c2 c10 y) k x = some t) {s : St} (hw : Weak KK 49 0 s (h50_0 (lstA TSequenceArrival.E a0) c2 (lstA TSequenceArrival.E a0) c10 x [])) : Tri Try.prog KK 49 0 (.loop c50_0) s (q50_0 R ) :=
  L50_0 R  (σ := Nat × (Int)) (fun z => iterO (fun y : Int => S50_0 n a0 c2 c10 y) z.1 z.2 = some t) (fun z => (lstA TSequenceArrival.E a0)) (fun z => c2) (fun z => (lstA TSequenceArrival.E a0)) (fun z => c10) (fun z => z.2) (fun z => []) (fun z => z.1) (by
    rintro ⟨k, y⟩ h
    cases k with
    | zero => exact (iterO_zero h).elim
    | succ k =>
      obtain ⟨u, h1, h2, h3⟩ := iterO_elim h
      exact B50_0_ok n a0 c2 c10 y R  _ (fun r e => hR r (h3 _ e).symm)  (fun y' e s' hw => ⟨(k, y'), h2 _ e, Nat.lt_succ_self k, hw⟩) h1) (k, x) hx hw
theorem g50_ok (n : Nat) (a0 : List TSequenceArrival) {t : ρ50} (R : AV → Mem → Prop) (hR : ∀ r : ρ50, t = r → ∀ u m, Ans ((intA r)) u m → R u m) : g50 n a0 = some t → F50 (lstA TSequenceArrival.E a0) R := by
  unfold g50 F50
  refine imp (opP_of (show _ = some ((intA (a0.length : Int)), []) from rfl)) ?_
  refine imp ex_i64_b ?_
  refine cond_b (fun _ => ?_) (fun _ => ?_)
  · exact fun hg => ret1 (hR _ (Option.some.inj hg).symm) (fz_sc _ _)
  · refine imp (opP_of (show _ = some ((intA (a0.length : Int)), []) from rfl)) ?_
    refine imp ex_i64_b ?_
    exact fun hg => L50_0_ok n a0 (0) (a0.length : Int) R  hR n _ hg (weak_mem [] rfl rfl rfl (okW_cons (ent_lst (E := TSequenceArrival.E) _ false) (okW_cons (.inl (leV_refl _)) (okW_cons (ent_lst (E := TSequenceArrival.E) _ false) (okW_cons (.inl (leV_refl _)) (okW_cons (.inl (leV_refl _)) okW_nil))))) okB_nil')
theorem sg50 {n : Nat} {a0 : List TSequenceArrival} {t : ρ50} (h : g50 n a0 = some t) : Says Try.prog KK.gl 50 [(lstA TSequenceArrival.E a0)] ((intA t)) :=
  says_of_own (by first | rfl | simp [cleans, clean, encs_clean, En.cln]) (by first | rfl | simp [cleans, clean, encs_clean, En.cln]) (F50_own (lstA TSequenceArrival.E a0) _ (g50_ok n a0 (Ans ((intA t))) (fun r e u m h => by rw [e]; exact h) h))
/- skyway/wake.Check -/
theorem B36_0_0_ok (n : Nat) (c2 : Int) (c10_0 : Int) (c10_1 : Int) (c10_2 : Int) (c10_3 : Int) (c10_4 : Int) (c10_5 : Int) (c10_6 : Int) (c10_7 : Int) (c10_8 : Int) (c10_9 : Int) (c10_10 : Int) (c10_11 : Int) (c10_12 : Int) (c10_13 : Int) (c10_14 : Int) (c10_15 : Int) (v11 : Int) (c14_0 : Int) (c14_1 : Int) (c14_2 : Int) (c14_3 : Int) (w15 : Int) {t : (Int) ⊕ ((Int) ⊕ ρ36)} (R : AV → Mem → Prop) (N0 : St → Prop) (N1 : St → Prop) (hR : ∀ r : ρ36, t = (.inr (.inr r)) → ∀ u m, Ans ((intA r)) u m → R u m) (hN0 : ∀ y : Int, t = (.inr (.inl y)) → ∀ s' : St, Weak KK 55 0 s' (h36_0 c2 c10_0 c10_1 c10_2 c10_3 c10_4 c10_5 c10_6 c10_7 c10_8 c10_9 c10_10 c10_11 c10_12 c10_13 c10_14 c10_15 y c10_0 c10_1 c10_2 c10_3 c10_4 c10_5 c10_6 c10_7 c10_8 c10_9 c10_10 c10_11 c10_12 c10_13 c10_14 c10_15 []) → N0 s') (hN1 : ∀ y : Int, t = (.inl y) → ∀ s' : St, Weak KK 55 0 s' (h36_0_0 c2 c10_0 c10_1 c10_2 c10_3 c10_4 c10_5 c10_6 c10_7 c10_8 c10_9 c10_10 c10_11 c10_12 c10_13 c10_14 c10_15 v11 c14_0 c14_1 c14_2 c14_3 y c10_0 c10_1 c10_2 c10_3 c10_4 c10_5 c10_6 c10_7 c10_8 c10_9 c10_10 c10_11 c10_12 c10_13 c10_14 c10_15 []) → N1 s') : S36_0_0 n c2 c10_0 c10_1 c10_2 c10_3 c10_4 c10_5 c10_6 c10_7 c10_8 c10_9 c10_10 c10_11 c10_12 c10_13 c10_14 c10_15 v11 c14_0 c14_1 c14_2 c14_3 w15 = some t → B36_0_0 c2 c10_0 c10_1 c10_2 c10_3 c10_4 c10_5 c10_6 c10_7 c10_8 c10_9 c10_10 c10_11 c10_12 c10_13 c10_14 c10_15 v11 c14_0 c14_1 c14_2 c14_3 w15 c10_0 c10_1 c10_2 c10_3 c10_4 c10_5 c10_6 c10_7 c10_8 c10_9 c10_10 c10_11 c10_12 c10_13 c10_14 c10_15 [] R N0 N1 := by
  unfold S36_0_0 B36_0_0
  refine cond_b (fun _ => ?_) (fun _ => ?_)
  · refine bind_b fun x13 h13 => ?_
    refine imp (opP_of (show _ = some ((intA x13), []) from (opA_index_sc (E := intE) (l := ([c14_0, c14_1, c14_2, c14_3] : List Int)) (len := 4) (e := 3) (by kernel_rfl) (by kernel_rfl) (by kernel_rfl) rfl ⟨rfl, rfl⟩ h13 rfl))) ?_
    refine imp ex_i64_b ?_
    refine cond_b (fun _ => ?_) (fun _ => ?_)
    · exact fun hg => ret1 (hR _ (Option.some.inj hg).symm) (fz_sc _ _)
    · refine cond_b (fun _ => ?_) (fun _ => ?_)
      · exact fun hg => ret1 (hR _ (Option.some.inj hg).symm) (fz_sc _ _)
      · exact fun hg => hN1 _ (Option.some.inj hg).symm _ (weak_mem [(0, 0)] rfl rfl rfl (okW_cons (.inl (leV_refl _)) (okW_cons (.inl (leV_refl _)) (okW_cons (.inl (leV_refl _)) (okW_cons (.inl (leV_refl _)) (okW_cons (.inl (leV_refl _)) (okW_cons (.inl (leV_refl _)) okW_nil)))))) (okB_cons (okB_cells (cs := [(intA c10_0), (intA c10_1), (intA c10_2), (intA c10_3), (intA c10_4), (intA c10_5), (intA c10_6), (intA c10_7), (intA c10_8), (intA c10_9), (intA c10_10), (intA c10_11), (intA c10_12), (intA c10_13), (intA c10_14), (intA c10_15)]) (ty := 24) rfl (show mget _ 0 = _ from (by first | rfl | (simp (disch := decide) only [mpushs_nil, mpushs_cons, mget_hd, mget_tl, mget_appW_o, mget_appW_n])))) okB_nil'))
  · exact fun hg => hN0 _ (Option.some.inj hg).symm _ (weak_mem [(0, 0)] rfl rfl rfl (okW_cons (.inl (leV_refl _)) (okW_cons (.inl (leV_refl _)) (okW_cons (.inl (leV_refl _)) (okW_cons (.inl (leV_refl _)) okW_nil)))) (okB_cons (okB_cells (cs := [(intA c10_0), (intA c10_1), (intA c10_2), (intA c10_3), (intA c10_4), (intA c10_5), (intA c10_6), (intA c10_7), (intA c10_8), (intA c10_9), (intA c10_10), (intA c10_11), (intA c10_12), (intA c10_13), (intA c10_14), (intA c10_15)]) (ty := 24) rfl (show mget _ 0 = _ from (by first | rfl | (simp (disch := decide) only [mpushs_nil, mpushs_cons, mget_hd, mget_tl, mget_appW_o, mget_appW_n])))) okB_nil'))
theorem L36_0_0_ok (n : Nat) (c2 : Int) (c10_0 : Int) (c10_1 : Int) (c10_2 : Int) (c10_3 : Int) (c10_4 : Int) (c10_5 : Int) (c10_6 : Int) (c10_7 : Int) (c10_8 : Int) (c10_9 : Int) (c10_10 : Int) (c10_11 : Int) (c10_12 : Int) (c10_13 : Int) (c10_14 : Int) (c10_15 : Int) (v11 : Int) (c14_0 : Int) (c14_1 : Int) (c14_2 : Int) (c14_3 : Int) {t : ((Int) ⊕ ρ36)} (R : AV → Mem → Prop) (N0 : St → Prop) (hR : ∀ r : ρ36, t = (.inr r) → ∀ u m, Ans ((intA r)) u m → R u m) (hN0 : ∀ y : Int, t = (.inl y) → ∀ s' : St, Weak KK 55 0 s' (h36_0 c2 c10_0 c10_1 c10_2 c10_3 c10_4 c10_5 c10_6 c10_7 c10_8 c10_9 c10_10 c10_11 c10_12 c10_13 c10_14 c10_15 y c10_0 c10_1 c10_2 c10_3 c10_4 c10_5 c10_6 c10_7 c10_8 c10_9 c10_10 c10_11 c10_12 c10_13 c10_14 c10_15 []) → N0 s') (k : Nat) (x : Int) (hx : iterO (fun y : Int => S36_0_0 n c2 c10_0 c10_1 c10_2 c10_3 c10_4 c10_5 c10_6 c10_7 c10_8 c10_9 c10_10 c10_11 c10_12 c10_13 c10_14 c10_15 v11 c14_0 c14_1 c14_2 c14_3 y) k x = some t) {s : St} (hw : Weak KK 55 0 s (h36_0_0 c2 c10_0 c10_1 c10_2 c10_3 c10_4 c10_5 c10_6 c10_7 c10_8 c10_9 c10_10 c10_11 c10_12 c10_13 c10_14 c10_15 v11 c14_0 c14_1 c14_2 c14_3 x c10_0 c10_1 c10_2 c10_3 c10_4 c10_5 c10_6 c10_7 c10_8 c10_9 c10_10 c10_11 c10_12 c10_13 c10_14 c10_15 [])) : Tri Try.prog KK 55 0 (.loop c36_0_0) s (q36_0_0 R N0) :=
  L36_0_0 R N0 (σ := Nat × (Int)) (fun z => iterO (fun y : Int => S36_0_0 n c2 c10_0 c10_1 c10_2 c10_3 c10_4 c10_5 c10_6 c10_7 c10_8 c10_9 c10_10 c10_11 c10_12 c10_13 c10_14 c10_15 v11 c14_0 c14_1 c14_2 c14_3 y) z.1 z.2 = some t) (fun z => c2) (fun z => c10_0) (fun z => c10_1) (fun z => c10_2) (fun z => c10_3) (fun z => c10_4) (fun z => c10_5) (fun z => c10_6) (fun z => c10_7) (fun z => c10_8) (fun z => c10_9) (fun z => c10_10) (fun z => c10_11) (fun z => c10_12) (fun z => c10_13) (fun z => c10_14) (fun z => c10_15) (fun z => v11) (fun z => c14_0) (fun z => c14_1) (fun z => c14_2) (fun z => c14_3) (fun z => z.2) (fun z => c10_0) (fun z => c10_1) (fun z => c10_2) (fun z => c10_3) (fun z => c10_4) (fun z => c10_5) (fun z => c10_6) (fun z => c10_7) (fun z => c10_8) (fun z => c10_9) (fun z => c10_10) (fun z => c10_11) (fun z => c10_12) (fun z => c10_13) (fun z => c10_14) (fun z => c10_15) (fun z => []) (fun z => z.1) (by
    rintro ⟨k, y⟩ h
    cases k with
    | zero => exact (iterO_zero h).elim
    | succ k =>
      obtain ⟨u, h1, h2, h3⟩ := iterO_elim h
      exact B36_0_0_ok n c2 c10_0 c10_1 c10_2 c10_3 c10_4 c10_5 c10_6 c10_7 c10_8 c10_9 c10_10 c10_11 c10_12 c10_13 c10_14 c10_15 v11 c14_0 c14_1 c14_2 c14_3 y R N0 _ (fun r e => hR r (h3 _ e).symm) (fun y' e => hN0 y' (h3 _ e).symm) (fun y' e s' hw => ⟨(k, y'), h2 _ e, Nat.lt_succ_self k, hw⟩) h1) (k, x) hx hw
theorem B36_1_0_0_ok (n : Nat) (c2 : Int) (v26 : Int) (w29 : Int) (c10_0 : Int) (c10_1 : Int) (c10_2 : Int) (c10_3 : Int) (c10_4 : Int) (c10_5 : Int) (c10_6 : Int) (c10_7 : Int) (c10_8 : Int) (c10_9 : Int) (c10_10 : Int) (c10_11 : Int) (c10_12 : Int) (c10_13 : Int) (c10_14 : Int) (c10_15 : Int) (u32 : Int) {t : (Int) ⊕ ((Int) ⊕ ((Int) ⊕ ρ36))} (R : AV → Mem → Prop) (N0 : St → Prop) (N1 : St → Prop) (N2 : St → Prop) (hR : ∀ r : ρ36, t = (.inr (.inr (.inr r))) → ∀ u m, Ans ((intA r)) u m → R u m) (hN0 : ∀ y : Int, t = (.inr (.inr (.inl y))) → ∀ s' : St, Weak KK 55 0 s' (h36_1 c2 y c10_0 c10_1 c10_2 c10_3 c10_4 c10_5 c10_6 c10_7 c10_8 c10_9 c10_10 c10_11 c10_12 c10_13 c10_14 c10_15 []) → N0 s') (hN1 : ∀ y : Int, t = (.inr (.inl y)) → ∀ s' : St, Weak KK 55 0 s' (h36_1_0 c2 v26 v26 y c10_0 c10_1 c10_2 c10_3 c10_4 c10_5 c10_6 c10_7 c10_8 c10_9 c10_10 c10_11 c10_12 c10_13 c10_14 c10_15 []) → N1 s') (hN2 : ∀ y : Int, t = (.inl y) → ∀ s' : St, Weak KK 55 0 s' (h36_1_0_0 c2 v26 w29 v26 w29 y c10_0 c10_1 c10_2 c10_3 c10_4 c10_5 c10_6 c10_7 c10_8 c10_9 c10_10 c10_11 c10_12 c10_13 c10_14 c10_15 []) → N2 s') : S36_1_0_0 n c2 v26 w29 c10_0 c10_1 c10_2 c10_3 c10_4 c10_5 c10_6 c10_7 c10_8 c10_9 c10_10 c10_11 c10_12 c10_13 c10_14 c10_15 u32 = some t → B36_1_0_0 c2 v26 w29 v26 w29 u32 c10_0 c10_1 c10_2 c10_3 c10_4 c10_5 c10_6 c10_7 c10_8 c10_9 c10_10 c10_11 c10_12 c10_13 c10_14 c10_15 [] R N0 N1 N2 := by
  unfold S36_1_0_0 B36_1_0_0
  refine cond_b (fun _ => ?_) (fun _ => ?_)
  · refine bind_b fun x14 h14 => ?_
    refine imp (opP_of (show _ = some ((AV.ptr 0 (((v26 : Int).toNat) * 4 + 0)), []) from (idxA_ok0 (l := ([(⟨c10_0, c10_1, c10_2, c10_3⟩ : T22), (⟨c10_4, c10_5, c10_6, c10_7⟩ : T22), (⟨c10_8, c10_9, c10_10, c10_11⟩ : T22), (⟨c10_12, c10_13, c10_14, c10_15⟩ : T22)] : List T22)) (len := 4) rfl h14))) ?_
    refine bind_b fun x15 h15 => ?_
    refine imp (opP_of (show _ = some ((AV.ptr 0 _), []) from (idxA_ok (l := ([x14.c0, x14.c1, x14.c2, x14.c3] : List Int)) (len := 4) rfl h15))) ?_
    refine imp (opP_of (show _ = some ((intA x15), []) from (ldS_row (E := T22.E) (E2 := intE) (l := ([(⟨c10_0, c10_1, c10_2, c10_3⟩ : T22), (⟨c10_4, c10_5, c10_6, c10_7⟩ : T22), (⟨c10_8, c10_9, c10_10, c10_11⟩ : T22), (⟨c10_12, c10_13, c10_14, c10_15⟩ : T22)] : List T22)) (l2 := ([x14.c0, x14.c1, x14.c2, x14.c3] : List Int)) (ty := 24) (by first | rfl | (simp (disch := decide) only [mpushs_nil, mpushs_cons, mget_hd, mget_tl, mget_appW_o, mget_appW_n])) (getI_some h14).2 rfl rfl (getI_some h15).2 rfl))) ?_
    refine imp ex_i64_b ?_
    refine bind_b fun x16 h16 => ?_
    refine imp (opP_of (show _ = some ((AV.ptr 0 (((v26 : Int).toNat) * 4 + 0)), []) from (idxA_ok0 (l := ([(⟨c10_0, c10_1, c10_2, c10_3⟩ : T22), (⟨c10_4, c10_5, c10_6, c10_7⟩ : T22), (⟨c10_8, c10_9, c10_10, c10_11⟩ : T22), (⟨c10_12, c10_13, c10_14, c10_15⟩ : T22)] : List T22)) (len := 4) rfl h16))) ?_
    refine bind_b fun x17 h17 => ?_
    refine imp (opP_of (show _ = some ((AV.ptr 0 _), []) from (idxA_ok (l := ([x16.c0, x16.c1, x16.c2, x16.c3] : List Int)) (len := 4) rfl h17))) ?_
    refine imp (opP_of (show _ = some ((intA x17), []) from (ldS_row (E := T22.E) (E2 := intE) (l := ([(⟨c10_0, c10_1, c10_2, c10_3⟩ : T22), (⟨c10_4, c10_5, c10_6, c10_7⟩ : T22), (⟨c10_8, c10_9, c10_10, c10_11⟩ : T22), (⟨c10_12, c10_13, c10_14, c10_15⟩ : T22)] : List T22)) (l2 := ([x16.c0, x16.c1, x16.c2, x16.c3] : List Int)) (ty := 24) (by first | rfl | (simp (disch := decide) only [mpushs_nil, mpushs_cons, mget_hd, mget_tl, mget_appW_o, mget_appW_n])) (getI_some h16).2 rfl rfl (getI_some h17).2 rfl))) ?_
    refine imp ex_i64_b ?_
    refine bind_b fun x18 h18 => ?_
    refine imp (opP_of (show _ = some ((AV.ptr 0 (((w29 : Int).toNat) * 4 + 0)), []) from (idxA_ok0 (l := ([(⟨c10_0, c10_1, c10_2, c10_3⟩ : T22), (⟨c10_4, c10_5, c10_6, c10_7⟩ : T22), (⟨c10_8, c10_9, c10_10, c10_11⟩ : T22), (⟨c10_12, c10_13, c10_14, c10_15⟩ : T22)] : List T22)) (len := 4) rfl h18))) ?_
    refine bind_b fun x19 h19 => ?_
    refine imp (opP_of (show _ = some ((AV.ptr 0 _), []) from (idxA_ok (l := ([x18.c0, x18.c1, x18.c2, x18.c3] : List Int)) (len := 4) rfl h19))) ?_
    refine imp (opP_of (show _ = some ((intA x19), []) from (ldS_row (E := T22.E) (E2 := intE) (l := ([(⟨c10_0, c10_1, c10_2, c10_3⟩ : T22), (⟨c10_4, c10_5, c10_6, c10_7⟩ : T22), (⟨c10_8, c10_9, c10_10, c10_11⟩ : T22), (⟨c10_12, c10_13, c10_14, c10_15⟩ : T22)] : List T22)) (l2 := ([x18.c0, x18.c1, x18.c2, x18.c3] : List Int)) (ty := 24) (by first | rfl | (simp (disch := decide) only [mpushs_nil, mpushs_cons, mget_hd, mget_tl, mget_appW_o, mget_appW_n])) (getI_some h18).2 rfl rfl (getI_some h19).2 rfl))) ?_
    refine imp ex_i64_b ?_
    refine cond_b (fun _ => ?_) (fun _ => ?_)
    · exact fun hg => ret1 (hR _ (Option.some.inj hg).symm) (fz_sc _ _)
    · exact fun hg => hN2 _ (Option.some.inj hg).symm _ (weak_mem [(0, 0)] rfl rfl rfl (okW_cons (.inl (leV_refl _)) (okW_cons (.inl (leV_refl _)) (okW_cons (.inl (leV_refl _)) (okW_cons (.inl (leV_refl _)) (okW_cons (.inl (leV_refl _)) (okW_cons (.inl (leV_refl _)) (okW_cons (.inl (leV_refl _)) okW_nil))))))) (okB_cons (okB_cells (cs := [(intA c10_0), (intA c10_1), (intA c10_2), (intA c10_3), (intA c10_4), (intA c10_5), (intA c10_6), (intA c10_7), (intA c10_8), (intA c10_9), (intA c10_10), (intA c10_11), (intA c10_12), (intA c10_13), (intA c10_14), (intA c10_15)]) (ty := 24) rfl (show mget _ 0 = _ from (by first | rfl | (simp (disch := decide) only [mpushs_nil, mpushs_cons, mget_hd, mget_tl, mget_appW_o, mget_appW_n])))) okB_nil'))
  · exact fun hg => hN1 _ (Option.some.inj hg).symm _ (weak_mem [(0, 0)] rfl rfl rfl (okW_cons (.inl (leV_refl _)) (okW_cons (.inl (leV_refl _)) (okW_cons (.inl (leV_refl _)) (okW_cons (.inl (leV_refl _)) (okW_cons (.inl (leV_refl _)) okW_nil))))) (okB_cons (okB_cells (cs := [(intA c10_0), (intA c10_1), (intA c10_2), (intA c10_3), (intA c10_4), (intA c10_5), (intA c10_6), (intA c10_7), (intA c10_8), (intA c10_9), (intA c10_10), (intA c10_11), (intA c10_12), (intA c10_13), (intA c10_14), (intA c10_15)]) (ty := 24) rfl (show mget _ 0 = _ from (by first | rfl | (simp (disch := decide) only [mpushs_nil, mpushs_cons, mget_hd, mget_tl, mget_appW_o, mget_appW_n])))) okB_nil'))
theorem L36_1_0_0_ok (n : Nat) (c2 : Int) (v26 : Int) (w29 : Int) (c10_0 : Int) (c10_1 : Int) (c10_2 : Int) (c10_3 : Int) (c10_4 : Int) (c10_5 : Int) (c10_6 : Int) (c10_7 : Int) (c10_8 : Int) (c10_9 : Int) (c10_10 : Int) (c10_11 : Int) (c10_12 : Int) (c10_13 : Int) (c10_14 : Int) (c10_15 : Int) {t : ((Int) ⊕ ((Int) ⊕ ρ36))} (R : AV → Mem → Prop) (N0 : St → Prop) (N1 : St → Prop) (hR : ∀ r : ρ36, t = (.inr (.inr r)) → ∀ u m, Ans ((intA r)) u m → R u m) (hN0 : ∀ y : Int, t = (.inr (.inl y)) → ∀ s' : St, Weak KK 55 0 s' (h36_1 c2 y c10_0 c10_1 c10_2 c10_3 c10_4 c10_5 c10_6 c10_7 c10_8 c10_9 c10_10 c10_11 c10_12 c10_13 c10_14 c10_15 []) → N0 s') (hN1 : ∀ y : Int, t = (.inl y) → ∀ s' : St, Weak KK 55 0 s' (h36_1_0 c2 v26 v26 y c10_0 c10_1 c10_2 c10_3 c10_4 c10_5 c10_6 c10_7 c10_8 c10_9 c10_10 c10_11 c10_12 c10_13 c10_14 c10_15 []) → N1 s') (k : Nat) (x : Int) (hx : iterO (fun y : Int => S36_1_0_0 n c2 v26 w29 c10_0 c10_1 c10_2 c10_3 c10_4 c10_5 c10_6 c10_7 c10_8 c10_9 c10_10 c10_11 c10_12 c10_13 c10_14 c10_15 y) k x = some t) {s : St} (hw : Weak KK 55 0 s (h36_1_0_0 c2 v26 w29 v26 w29 x c10_0 c10_1 c10_2 c10_3 c10_4 c10_5 c10_6 c10_7 c10_8 c10_9 c10_10 c10_11 c10_12 c10_13 c10_14 c10_15 [])) : Tri Try.prog KK 55 0 (.loop c36_1_0_0) s (q36_1_0_0 R N0 N1) :=
  L36_1_0_0 R N0 N1 (σ := Nat × (Int)) (fun z => iterO (fun y : Int => S36_1_0_0 n c2 v26 w29 c10_0 c10_1 c10_2 c10_3 c10_4 c10_5 c10_6 c10_7 c10_8 c10_9 c10_10 c10_11 c10_12 c10_13 c10_14 c10_15 y) z.1 z.2 = some t) (fun z => c2) (fun z => v26) (fun z => w29) (fun z => v26) (fun z => w29) (fun z => z.2) (fun z => c10_0) (fun z => c10_1) (fun z => c10_2) (fun z => c10_3) (fun z => c10_4) (fun z => c10_5) (fun z => c10_6) (fun z => c10_7) (fun z => c10_8) (fun z => c10_9) (fun z => c10_10) (fun z => c10_11) (fun z => c10_12) (fun z => c10_13) (fun z => c10_14) (fun z => c10_15) (fun z => []) (fun z => z.1) (by
    rintro ⟨k, y⟩ h
    cases k with
    | zero => exact (iterO_zero h).elim
    | succ k =>
      obtain ⟨u, h1, h2, h3⟩ := iterO_elim h
      exact B36_1_0_0_ok n c2 v26 w29 c10_0 c10_1 c10_2 c10_3 c10_4 c10_5 c10_6 c10_7 c10_8 c10_9 c10_10 c10_11 c10_12 c10_13 c10_14 c10_15 y R N0 N1 _ (fun r e => hR r (h3 _ e).symm) (fun y' e => hN0 y' (h3 _ e).symm) (fun y' e => hN1 y' (h3 _ e).symm) (fun y' e s' hw => ⟨(k, y'), h2 _ e, Nat.lt_succ_self k, hw⟩) h1) (k, x) hx hw
theorem B36_1_0_ok (n : Nat) (c2 : Int) (v26 : Int) (c10_0 : Int) (c10_1 : Int) (c10_2 : Int) (c10_3 : Int) (c10_4 : Int) (c10_5 : Int) (c10_6 : Int) (c10_7 : Int) (c10_8 : Int) (c10_9 : Int) (c10_10 : Int) (c10_11 : Int) (c10_12 : Int) (c10_13 : Int) (c10_14 : Int) (c10_15 : Int) (w29 : Int) {t : (Int) ⊕ ((Int) ⊕ ρ36)} (R : AV → Mem → Prop) (N0 : St → Prop) (N1 : St → Prop) (hR : ∀ r : ρ36, t = (.inr (.inr r)) → ∀ u m, Ans ((intA r)) u m → R u m) (hN0 : ∀ y : Int, t = (.inr (.inl y)) → ∀ s' : St, Weak KK 55 0 s' (h36_1 c2 y c10_0 c10_1 c10_2 c10_3 c10_4 c10_5 c10_6 c10_7 c10_8 c10_9 c10_10 c10_11 c10_12 c10_13 c10_14 c10_15 []) → N0 s') (hN1 : ∀ y : Int, t = (.inl y) → ∀ s' : St, Weak KK 55 0 s' (h36_1_0 c2 v26 v26 y c10_0 c10_1 c10_2 c10_3 c10_4 c10_5 c10_6 c10_7 c10_8 c10_9 c10_10 c10_11 c10_12 c10_13 c10_14 c10_15 []) → N1 s') : S36_1_0 n c2 v26 c10_0 c10_1 c10_2 c10_3 c10_4 c10_5 c10_6 c10_7 c10_8 c10_9 c10_10 c10_11 c10_12 c10_13 c10_14 c10_15 w29 = some t → B36_1_0 c2 v26 v26 w29 c10_0 c10_1 c10_2 c10_3 c10_4 c10_5 c10_6 c10_7 c10_8 c10_9 c10_10 c10_11 c10_12 c10_13 c10_14 c10_15 [] R N0 N1 := by
  unfold S36_1_0 B36_1_0
  refine cond_b (fun _ => ?_) (fun _ => ?_)
  · exact fun hg => L36_1_0_0_ok n c2 v26 w29 c10_0 c10_1 c10_2 c10_3 c10_4 c10_5 c10_6 c10_7 c10_8 c10_9 c10_10 c10_11 c10_12 c10_13 c10_14 c10_15 R N0 N1 hR hN0 hN1 n _ hg (weak_mem [(0, 0)] rfl rfl rfl (okW_cons (.inl (leV_refl _)) (okW_cons (.inl (leV_refl _)) (okW_cons (.inl (leV_refl _)) (okW_cons (.inl (leV_refl _)) (okW_cons (.inl (leV_refl _)) (okW_cons (.inl (leV_refl _)) (okW_cons (.inl (leV_refl _)) okW_nil))))))) (okB_cons (okB_cells (cs := [(intA c10_0), (intA c10_1), (intA c10_2), (intA c10_3), (intA c10_4), (intA c10_5), (intA c10_6), (intA c10_7), (intA c10_8), (intA c10_9), (intA c10_10), (intA c10_11), (intA c10_12), (intA c10_13), (intA c10_14), (intA c10_15)]) (ty := 24) rfl (show mget _ 0 = _ from (by first | rfl | (simp (disch := decide) only [mpushs_nil, mpushs_cons, mget_hd, mget_tl, mget_appW_o, mget_appW_n])))) okB_nil'))
  · exact fun hg => hN0 _ (Option.some.inj hg).symm _ (weak_mem [(0, 0)] rfl rfl rfl (okW_cons (.inl (leV_refl _)) (okW_cons (.inl (leV_refl _)) (okW_cons (.inl (leV_refl _)) okW_nil))) (okB_cons (okB_cells (cs := [(intA c10_0), (intA c10_1), (intA c10_2), (intA c10_3), (intA c10_4), (intA c10_5), (intA c10_6), (intA c10_7), (intA c10_8), (intA c10_9), (intA c10_10), (intA c10_11), (intA c10_12), (intA c10_13), (intA c10_14), (intA c10_15)]) (ty := 24) rfl (show mget _ 0 = _ from (by first | rfl | (simp (disch := decide) only [mpushs_nil, mpushs_cons, mget_hd, mget_tl, mget_appW_o, mget_appW_n])))) okB_nil'))
theorem L36_1_0_ok (n : Nat) (c2 : Int) (v26 : Int) (c10_0 : Int) (c10_1 : Int) (c10_2 : Int) (c10_3 : Int) (c10_4 : Int) (c10_5 : Int) (c10_6 : Int) (c10_7 : Int) (c10_8 : Int) (c10_9 : Int) (c10_10 : Int) (c10_11 : Int) (c10_12 : Int) (c10_13 : Int) (c10_14 : Int) (c10_15 : Int) {t : ((Int) ⊕ ρ36)} (R : AV → Mem → Prop) (N0 : St → Prop) (hR : ∀ r : ρ36, t = (.inr r) → ∀ u m, Ans ((intA r)) u m → R u m) (hN0 : ∀ y : Int, t = (.inl y) → ∀ s' : St, Weak KK 55 0 s' (h36_1 c2 y c10_0 c10_1 c10_2 c10_3 c10_4 c10_5 c10_6 c10_7 c10_8 c10_9 c10_10 c10_11 c10_12 c10_13 c10_14 c10_15 []) → N0 s') (k : Nat) (x : Int) (hx : iterO (fun y : Int => S36_1_0 n c2 v26 c10_0 c10_1 c10_2 c10_3 c10_4 c10_5 c10_6 c10_7 c10_8 c10_9 c10_10 c10_11 c10_12 c10_13 c10_14 c10_15 y) k x = some t) {s : St} (hw : Weak KK 55 0 s (h36_1_0 c2 v26 v26 x c10_0 c10_1 c10_2 c10_3 c10_4 c10_5 c10_6 c10_7 c10_8 c10_9 c10_10 c10_11 c10_12 c10_13 c10_14 c10_15 [])) : Tri Try.prog KK 55 0 (.loop c36_1_0) s (q36_1_0 R N0) :=
  L36_1_0 R N0 (σ := Nat × (Int)) (fun z => iterO (fun y : Int => S36_1_0 n c2 v26 c10_0 c10_1 c10_2 c10_3 c10_4 c10_5 c10_6 c10_7 c10_8 c10_9 c10_10 c10_11 c10_12 c10_13 c10_14 c10_15 y) z.1 z.2 = some t) (fun z => c2) (fun z => v26) (fun z => v26) (fun z => z.2) (fun z => c10_0) (fun z => c10_1) (fun z => c10_2) (fun z => c10_3) (fun z => c10_4) (fun z => c10_5) (fun z => c10_6) (fun z => c10_7) (fun z => c10_8) (fun z => c10_9) (fun z => c10_10) (fun z => c10_11) (fun z => c10_12) (fun z => c10_13) (fun z => c10_14) (fun z => c10_15) (fun z => []) (fun z => z.1) (by
    rintro ⟨k, y⟩ h
    cases k with
    | zero => exact (iterO_zero h).elim
    | succ k =>
      obtain ⟨u, h1, h2, h3⟩ := iterO_elim h
      exact B36_1_0_ok n c2 v26 c10_0 c10_1 c10_2 c10_3 c10_4 c10_5 c10_6 c10_7 c10_8 c10_9 c10_10 c10_11 c10_12 c10_13 c10_14 c10_15 y R N0 _ (fun r e => hR r (h3 _ e).symm) (fun y' e => hN0 y' (h3 _ e).symm) (fun y' e s' hw => ⟨(k, y'), h2 _ e, Nat.lt_succ_self k, hw⟩) h1) (k, x) hx hw
theorem B36_1_ok (n : Nat) (c2 : Int) (c10_0 : Int) (c10_1 : Int) (c10_2 : Int) (c10_3 : Int) (c10_4 : Int) (c10_5 : Int) (c10_6 : Int) (c10_7 : Int) (c10_8 : Int) (c10_9 : Int) (c10_10 : Int) (c10_11 : Int) (c10_12 : Int) (c10_13 : Int) (c10_14 : Int) (c10_15 : Int) (v26 : Int) {t : (Int) ⊕ ρ36} (R : AV → Mem → Prop) (N0 : St → Prop) (hR : ∀ r : ρ36, t = (.inr r) → ∀ u m, Ans ((intA r)) u m → R u m) (hN0 : ∀ y : Int, t = (.inl y) → ∀ s' : St, Weak KK 55 0 s' (h36_1 c2 y c10_0 c10_1 c10_2 c10_3 c10_4 c10_5 c10_6 c10_7 c10_8 c10_9 c10_10 c10_11 c10_12 c10_13 c10_14 c10_15 []) → N0 s') : S36_1 n c2 c10_0 c10_1 c10_2 c10_3 c10_4 c10_5 c10_6 c10_7 c10_8 c10_9 c10_10 c10_11 c10_12 c10_13 c10_14 c10_15 v26 = some t → B36_1 c2 v26 c10_0 c10_1 c10_2 c10_3 c10_4 c10_5 c10_6 c10_7 c10_8 c10_9 c10_10 c10_11 c10_12 c10_13 c10_14 c10_15 [] R N0 := by
  unfold S36_1 B36_1
  refine cond_b (fun _ => ?_) (fun _ => ?_)
  · exact fun hg => L36_1_0_ok n c2 v26 c10_0 c10_1 c10_2 c10_3 c10_4 c10_5 c10_6 c10_7 c10_8 c10_9 c10_10 c10_11 c10_12 c10_13 c10_14 c10_15 R N0 hR hN0 n _ hg (weak_mem [(0, 0)] rfl rfl rfl (okW_cons (.inl (leV_refl _)) (okW_cons (.inl (leV_refl _)) (okW_cons (.inl (leV_refl _)) (okW_cons (.inl (leV_refl _)) (okW_cons (.inl (leV_refl _)) okW_nil))))) (okB_cons (okB_cells (cs := [(intA c10_0), (intA c10_1), (intA c10_2), (intA c10_3), (intA c10_4), (intA c10_5), (intA c10_6), (intA c10_7), (intA c10_8), (intA c10_9), (intA c10_10), (intA c10_11), (intA c10_12), (intA c10_13), (intA c10_14), (intA c10_15)]) (ty := 24) rfl (show mget _ 0 = _ from (by first | rfl | (simp (disch := decide) only [mpushs_nil, mpushs_cons, mget_hd, mget_tl, mget_appW_o, mget_appW_n])))) okB_nil'))
  · exact fun hg => ret1 (hR _ (Option.some.inj hg).symm) (fz_sc _ _)
theorem L36_1_ok (n : Nat) (c2 : Int) (c10_0 : Int) (c10_1 : Int) (c10_2 : Int) (c10_3 : Int) (c10_4 : Int) (c10_5 : Int) (c10_6 : Int) (c10_7 : Int) (c10_8 : Int) (c10_9 : Int) (c10_10 : Int) (c10_11 : Int) (c10_12 : Int) (c10_13 : Int) (c10_14 : Int) (c10_15 : Int) {t : ρ36} (R : AV → Mem → Prop) (hR : ∀ r : ρ36, t = r → ∀ u m, Ans ((intA r)) u m → R u m) (k : Nat) (x : Int) (hx : iterO (fun y : Int => S36_1 n c2 c10_0 c10_1 c10_2 c10_3 c10_4 c10_5 c10_6 c10_7 c10_8 c10_9 c10_10 c10_11 c10_12 c10_13 c10_14 c10_15 y) k x = some t) {s : St} (hw : Weak KK 55 0 s (h36_1 c2 x c10_0 c10_1 c10_2 c10_3 c10_4 c10_5 c10_6 c10_7 c10_8 c10_9 c10_10 c10_11 c10_12 c10_13 c10_14 c10_15 [])) : Tri Try.prog KK 55 0 (.loop c36_1) s (q36_1 R ) :=
  L36_1 R  (σ := Nat × (Int)) (fun z => iterO (fun y : Int => S36_1 n c2 c10_0 c10_1 c10_2 c10_3 c10_4 c10_5 c10_6 c10_7 c10_8 c10_9 c10_10 c10_11 c10_12 c10_13 c10_14 c10_15 y) z.1 z.2 = some t) (fun z => c2) (fun z => z.2) (fun z => c10_0) (fun z => c10_1) (fun z => c10_2) (fun z => c10_3) (fun z => c10_4) (fun z => c10_5) (fun z => c10_6) (fun z => c10_7) (fun z => c10_8) (fun z => c10_9) (fun z => c10_10) (fun z => c10_11) (fun z => c10_12) (fun z => c10_13) (fun z => c10_14) (fun z => c10_15) (fun z => []) (fun z => z.1) (by
    rintro ⟨k, y⟩ h
    cases k with
    | zero => exact (iterO_zero h).elim
    | succ k =>
      obtain ⟨u, h1, h2, h3⟩ := iterO_elim h
      exact B36_1_ok n c2 c10_0 c10_1 c10_2 c10_3 c10_4 c10_5 c10_6 c10_7 c10_8 c10_9 c10_10 c10_11 c10_12 c10_13 c10_14 c10_15 y R  _ (fun r e => hR r (h3 _ e).symm)  (fun y' e s' hw => ⟨(k, y'), h2 _ e, Nat.lt_succ_self k, hw⟩) h1) (k, x) hx hw
theorem B36_0_ok (n : Nat) (c2 : Int) (c10_0 : Int) (c10_1 : Int) (c10_2 : Int) (c10_3 : Int) (c10_4 : Int) (c10_5 : Int) (c10_6 : Int) (c10_7 : Int) (c10_8 : Int) (c10_9 : Int) (c10_10 : Int) (c10_11 : Int) (c10_12 : Int) (c10_13 : Int) (c10_14 : Int) (c10_15 : Int) (v11 : Int) {t : (Int) ⊕ ρ36} (R : AV → Mem → Prop) (N0 : St → Prop) (hR : ∀ r : ρ36, t = (.inr r) → ∀ u m, Ans ((intA r)) u m → R u m) (hN0 : ∀ y : Int, t = (.inl y) → ∀ s' : St, Weak KK 55 0 s' (h36_0 c2 c10_0 c10_1 c10_2 c10_3 c10_4 c10_5 c10_6 c10_7 c10_8 c10_9 c10_10 c10_11 c10_12 c10_13 c10_14 c10_15 y c10_0 c10_1 c10_2 c10_3 c10_4 c10_5 c10_6 c10_7 c10_8 c10_9 c10_10 c10_11 c10_12 c10_13 c10_14 c10_15 []) → N0 s') : S36_0 n c2 c10_0 c10_1 c10_2 c10_3 c10_4 c10_5 c10_6 c10_7 c10_8 c10_9 c10_10 c10_11 c10_12 c10_13 c10_14 c10_15 v11 = some t → B36_0 c2 c10_0 c10_1 c10_2 c10_3 c10_4 c10_5 c10_6 c10_7 c10_8 c10_9 c10_10 c10_11 c10_12 c10_13 c10_14 c10_15 v11 c10_0 c10_1 c10_2 c10_3 c10_4 c10_5 c10_6 c10_7 c10_8 c10_9 c10_10 c10_11 c10_12 c10_13 c10_14 c10_15 [] R N0 := by
  unfold S36_0 B36_0
  refine cond_b (fun _ => ?_) (fun _ => ?_)
  · refine bind_b fun x12 h12 => ?_
    refine imp (opP_of (show _ = some ((AV.agg [(intA x12.c0), (intA x12.c1), (intA x12.c2), (intA x12.c3)]), []) from (opA_index_agg (E := T22.E) (l := ([(⟨c10_0, c10_1, c10_2, c10_3⟩ : T22), (⟨c10_4, c10_5, c10_6, c10_7⟩ : T22), (⟨c10_8, c10_9, c10_10, c10_11⟩ : T22), (⟨c10_12, c10_13, c10_14, c10_15⟩ : T22)] : List T22)) (len := 4) (e := 22) (by kernel_rfl) (by kernel_rfl) (by kernel_rfl) rfl ⟨rfl, rfl⟩ h12))) ?_
    refine imp exA4_b ?_
    refine imp ex_i64_b ?_
    refine imp ex_i64_b ?_
    refine imp ex_i64_b ?_
    refine imp ex_i64_b ?_
    exact fun hg => L36_0_0_ok n c2 c10_0 c10_1 c10_2 c10_3 c10_4 c10_5 c10_6 c10_7 c10_8 c10_9 c10_10 c10_11 c10_12 c10_13 c10_14 c10_15 v11 x12.c0 x12.c1 x12.c2 x12.c3 R N0 hR hN0 n _ hg (weak_mem [(0, 0)] rfl rfl rfl (okW_cons (.inl (leV_refl _)) (okW_cons (.inl (leV_refl _)) (okW_cons (.inl (leV_refl _)) (okW_cons (.inl (leV_refl _)) (okW_cons (.inl (leV_refl _)) (okW_cons (.inl (leV_refl _)) okW_nil)))))) (okB_cons (okB_cells (cs := [(intA c10_0), (intA c10_1), (intA c10_2), (intA c10_3), (intA c10_4), (intA c10_5), (intA c10_6), (intA c10_7), (intA c10_8), (intA c10_9), (intA c10_10), (intA c10_11), (intA c10_12), (intA c10_13), (intA c10_14), (intA c10_15)]) (ty := 24) rfl (show mget _ 0 = _ from (by first | rfl | (simp (disch := decide) only [mpushs_nil, mpushs_cons, mget_hd, mget_tl, mget_appW_o, mget_appW_n])))) okB_nil'))
  · refine mapInr_b fun t0 e0 => ?_
    exact fun hg => L36_1_ok n c2 c10_0 c10_1 c10_2 c10_3 c10_4 c10_5 c10_6 c10_7 c10_8 c10_9 c10_10 c10_11 c10_12 c10_13 c10_14 c10_15 R  (fun r e => hR r (e0.trans (congrArg Sum.inr e))) n _ hg (weak_mem [(0, 0)] rfl rfl rfl (okW_cons (.inl (leV_refl _)) (okW_cons (.inl (leV_refl _)) (okW_cons (.inl (leV_refl _)) okW_nil))) (okB_cons (okB_cells (cs := [(intA c10_0), (intA c10_1), (intA c10_2), (intA c10_3), (intA c10_4), (intA c10_5), (intA c10_6), (intA c10_7), (intA c10_8), (intA c10_9), (intA c10_10), (intA c10_11), (intA c10_12), (intA c10_13), (intA c10_14), (intA c10_15)]) (ty := 24) rfl (show mget _ 0 = _ from (by first | rfl | (simp (disch := decide) only [mpushs_nil, mpushs_cons, mget_hd, mget_tl, mget_appW_o, mget_appW_n])))) okB_nil'))
theorem L36_0_ok (n : Nat) (c2 : Int) (c10_0 : Int) (c10_1 : Int) (c10_2 : Int) (c10_3 : Int) (c10_4 : Int) (c10_5 : Int) (c10_6 : Int) (c10_7 : Int) (c10_8 : Int) (c10_9 : Int) (c10_10 : Int) (c10_11 : Int) (c10_12 : Int) (c10_13 : Int) (c10_14 : Int) (c10_15 : Int) {t : ρ36} (R : AV → Mem → Prop) (hR : ∀ r : ρ36, t = r → ∀ u m, Ans ((intA r)) u m → R u m) (k : Nat) (x : Int) (hx : iterO (fun y : Int => S36_0 n c2 c10_0 c10_1 c10_2 c10_3 c10_4 c10_5 c10_6 c10_7 c10_8 c10_9 c10_10 c10_11 c10_12 c10_13 c10_14 c10_15 y) k x = some t) {s : St} (hw : Weak KK 55 0 s (h36_0 c2 c10_0 c10_1 c10_2 c10_3 c10_4 c10_5 c10_6 c10_7 c10_8 c10_9 c10_10 c10_11 c10_12 c10_13 c10_14 c10_15 x c10_0 c10_1 c10_2 c10_3 c10_4 c10_5 c10_6 c10_7 c10_8 c10_9 c10_10 c10_11 c10_12 c10_13 c10_14 c10_15 [])) : Tri Try.prog KK 55 0 (.loop c36_0) s (q36_0 R ) :=
  L36_0 R  (σ := Nat × (Int)) (fun z => iterO (fun y : Int => S36_0 n c2 c10_0 c10_1 c10_2 c10_3 c10_4 c10_5 c10_6 c10_7 c10_8 c10_9 c10_10 c10_11 c10_12 c10_13 c10_14 c10_15 y) z.1 z.2 = some t) (fun z => c2) (fun z => c10_0) (fun z => c10_1) (fun z => c10_2) (fun z => c10_3) (fun z => c10_4) (fun z => c10_5) (fun z => c10_6) (fun z => c10_7) (fun z => c10_8) (fun z => c10_9) (fun z => c10_10) (fun z => c10_11) (fun z => c10_12) (fun z => c10_13) (fun z => c10_14) (fun z => c10_15) (fun z => z.2) (fun z => c10_0) (fun z => c10_1) (fun z => c10_2) (fun z => c10_3) (fun z => c10_4) (fun z => c10_5) (fun z => c10_6) (fun z => c10_7) (fun z => c10_8) (fun z => c10_9) (fun z => c10_10) (fun z => c10_11) (fun z => c10_12) (fun z => c10_13) (fun z => c10_14) (fun z => c10_15) (fun z => []) (fun z => z.1) (by
    rintro ⟨k, y⟩ h
    cases k with
    | zero => exact (iterO_zero h).elim
    | succ k =>
      obtain ⟨u, h1, h2, h3⟩ := iterO_elim h
      exact B36_0_ok n c2 c10_0 c10_1 c10_2 c10_3 c10_4 c10_5 c10_6 c10_7 c10_8 c10_9 c10_10 c10_11 c10_12 c10_13 c10_14 c10_15 y R  _ (fun r e => hR r (h3 _ e).symm)  (fun y' e s' hw => ⟨(k, y'), h2 _ e, Nat.lt_succ_self k, hw⟩) h1) (k, x) hx hw
theorem g36_ok (n : Nat) (a0 : TWakeTable) {t : ρ36} (R : AV → Mem → Prop) (hR : ∀ r : ρ36, t = r → ∀ u m, Ans ((intA r)) u m → R u m) : g36 n a0 = some t → F36 a0.c0_0 a0.c0_1 a0.c0_2 a0.c0_3 a0.c1_0 a0.c1_1 a0.c1_2 a0.c1_3 a0.c2_0 a0.c2_1 a0.c2_2 a0.c2_3 a0.c3_0 a0.c3_1 a0.c3_2 a0.c3_3 R := by
  unfold g36 F36
  exact fun hg => L36_0_ok n (0) a0.c0_0 a0.c0_1 a0.c0_2 a0.c0_3 a0.c1_0 a0.c1_1 a0.c1_2 a0.c1_3 a0.c2_0 a0.c2_1 a0.c2_2 a0.c2_3 a0.c3_0 a0.c3_1 a0.c3_2 a0.c3_3 R  hR n _ hg (weak_mem [(0, 0)] rfl rfl rfl (okW_cons (.inl (leV_refl _)) (okW_cons (.inl (leV_refl _)) (okW_cons (.inl (leV_refl _)) (okW_cons (.inl (leV_refl _)) okW_nil)))) (okB_cons (okB_cells (cs := [(intA a0.c0_0), (intA a0.c0_1), (intA a0.c0_2), (intA a0.c0_3), (intA a0.c1_0), (intA a0.c1_1), (intA a0.c1_2), (intA a0.c1_3), (intA a0.c2_0), (intA a0.c2_1), (intA a0.c2_2), (intA a0.c2_3), (intA a0.c3_0), (intA a0.c3_1), (intA a0.c3_2), (intA a0.c3_3)]) (ty := 24) rfl (show mget _ 0 = _ from (by first | rfl | (simp (disch := decide) only [mpushs_nil, mpushs_cons, mget_hd, mget_tl, mget_appW_o, mget_appW_n])))) okB_nil'))
theorem sg36 {n : Nat} {a0 : TWakeTable} {t : ρ36} (h : g36 n a0 = some t) : Says Try.prog KK.gl 36 [(AV.agg [(intA a0.c0_0), (intA a0.c0_1), (intA a0.c0_2), (intA a0.c0_3), (intA a0.c1_0), (intA a0.c1_1), (intA a0.c1_2), (intA a0.c1_3), (intA a0.c2_0), (intA a0.c2_1), (intA a0.c2_2), (intA a0.c2_3), (intA a0.c3_0), (intA a0.c3_1), (intA a0.c3_2), (intA a0.c3_3)])] ((intA t)) :=
  says_of_own (by first | rfl | simp [cleans, clean, encs_clean, En.cln]) (by first | rfl | simp [cleans, clean, encs_clean, En.cln]) (F36_own a0.c0_0 a0.c0_1 a0.c0_2 a0.c0_3 a0.c1_0 a0.c1_1 a0.c1_2 a0.c1_3 a0.c2_0 a0.c2_1 a0.c2_2 a0.c2_3 a0.c3_0 a0.c3_1 a0.c3_2 a0.c3_3 _ (g36_ok n a0 (Ans ((intA t))) (fun r e u m h => by rw [e]; exact h) h))
/- skyway/sequence.isOrder -/
theorem B55_0_ok (n : Nat) (a0 : List Int) (a1 : Int) (c4 : Bool) (c11 : Int) (v12 : Int) (L90000 : List Bool) {t : (Int × List Bool) ⊕ ρ55} (R : AV → Mem → Prop) (N0 : St → Prop) (hR : ∀ r : ρ55, t = (.inr r) → ∀ u m, Ans ((boolA r)) u m → R u m) (hN0 : ∀ y : Int × List Bool, t = (.inl y) → ∀ s' : St, Weak KK 37 0 s' (h55_0 (lstA intE a0) a1 c4 (blkV boolE 90000 y.2) (lstA intE a0) c11 y.1 [(90000, some ⟨encs boolE y.2, 4⟩)]) → N0 s') : S55_0 n a0 a1 c4 c11 v12 L90000 = some t → B55_0 (lstA intE a0) a1 c4 (blkV boolE 90000 L90000) (lstA intE a0) c11 v12 [(90000, some ⟨encs boolE L90000, 4⟩)] R N0 := by
  unfold S55_0 B55_0
  refine cond_b (fun _ => ?_) (fun _ => ?_)
  · refine bind_b fun x22 h22 => ?_
    refine imp (opP_of (show _ = some ((AV.ept [(intA x22)] 0), []) from (idx_lst (E := intE) rfl h22))) ?_
    refine imp (opP_of (show _ = some ((intA x22), []) from rfl)) ?_
    refine imp ex_i64_b ?_
    refine cond_b (fun _ => ?_) (fun _ => ?_)
    · exact fun hg => ret1 (hR _ (Option.some.inj hg).symm) (fz_sc _ _)
    · refine cond_b (fun _ => ?_) (fun _ => ?_)
      · exact fun hg => ret1 (hR _ (Option.some.inj hg).symm) (fz_sc _ _)
      · refine bind_b fun x23 h23 => ?_
        refine imp (opP_of (show _ = some ((AV.ptr 90000 (((x22 : Int).toNat) * 1 + 0)), []) from (idx_blk (E := boolE) rfl h23))) ?_
        refine imp (opP_of (show _ = some ((boolA x23), []) from (ldS_blk (E := boolE) (l := L90000) (ty := 4) (o := 0) (by first | rfl | (simp (disch := decide) only [mpushs_nil, mpushs_cons, mget_hd, mget_tl, mget_appW_o, mget_appW_n])) (getI_some h23).2 rfl (by decide) rfl))) ?_
        refine imp exB_b ?_
        refine cond_b (fun _ => ?_) (fun _ => ?_)
        · exact fun hg => ret1 (hR _ (Option.some.inj hg).symm) (fz_sc _ _)
        · refine bind_b fun x24 h24 => ?_
          refine imp (opP_of (show _ = some ((AV.ptr 90000 (((x22 : Int).toNat) * 1 + 0)), []) from (idx_blk (E := boolE) rfl h24))) ?_
          refine imp (storeW_el (E := boolE) (l := L90000) (i := ((x22 : Int).toNat)) (o := 0) (y := true) (ty := 4) (by kernel_rfl) (by kernel_rfl) rfl (by first | rfl | (simp (disch := decide) only [mpushs_nil, mpushs_cons, mget_hd, mget_tl, mget_appW_o, mget_appW_n])) (getI_some h24).2 rfl (by decide) rfl) ?_
          exact fun hg => hN0 _ (Option.some.inj hg).symm _ (weak_mem [(90000, 90000)] rfl rfl rfl (okW_cons (ent_lst (E := intE) _ false) (okW_cons (.inl (leV_refl _)) (okW_cons (.inl (leV_refl _)) (okW_cons (ent_blk (E := boolE) (id := 90000) (l' := (L90000.set ((x22 : Int).toNat) true)) (by first | rfl | omega | (simp; done) | (simp; omega)) rfl) (okW_cons (ent_lst (E := intE) _ false) (okW_cons (.inl (leV_refl _)) (okW_cons (.inl (leV_refl _)) okW_nil))))))) (okB_cons (okB_cells (cs := encs boolE (L90000.set ((x22 : Int).toNat) true)) (ty := 4) (encs_clean _) (show mget _ 90000 = _ from (by first | rfl | (simp (disch := decide) only [mpushs_nil, mpushs_cons, mget_hd, mget_tl, mget_appW_o, mget_appW_n])))) okB_nil'))
  · refine imp (opP_of (show _ = some ((intA (a0.length : Int)), []) from rfl)) ?_
    refine imp ex_i64_b ?_
    exact fun hg => ret1 (hR _ (Option.some.inj hg).symm) (fz_sc _ _)
theorem L55_0_ok (n : Nat) (a0 : List Int) (a1 : Int) (c4 : Bool) (c11 : Int) {t : ρ55} (R : AV → Mem → Prop) (hR : ∀ r : ρ55, t = r → ∀ u m, Ans ((boolA r)) u m → R u m) (k : Nat) (x : Int × List Bool) (hx : iterO (fun y : Int × List Bool => S55_0 n a0 a1 c4 c11 y.1 y.2) k x = some t) {s : St} (hw : Weak KK 37 0 s (h55_0 (lstA intE a0) a1 c4 (blkV boolE 90000 x.2) (lstA intE a0) c11 x.1 [(90000, some ⟨encs boolE x.2, 4⟩)])) : Tri Try.prog KK 37 0 (.loop c55_0) s (q55_0 R ) :=
  L55_0 R  (σ := Nat × (Int × List Bool)) (fun z => iterO (fun y : Int × List Bool => S55_0 n a0 a1 c4 c11 y.1 y.2) z.1 z.2 = some t) (fun z => (lstA intE a0)) (fun z => a1) (fun z => c4) (fun z => (blkV boolE 90000 z.2.2)) (fun z => (lstA intE a0)) (fun z => c11) (fun z => z.2.1) (fun z => [(90000, some ⟨encs boolE z.2.2, 4⟩)]) (fun z => z.1) (by
    rintro ⟨k, y⟩ h
    cases k with
    | zero => exact (iterO_zero h).elim
    | succ k =>
      obtain ⟨u, h1, h2, h3⟩ := iterO_elim h
      exact B55_0_ok n a0 a1 c4 c11 y.1 y.2 R  _ (fun r e => hR r (h3 _ e).symm)  (fun y' e s' hw => ⟨(k, y'), h2 _ e, Nat.lt_succ_self k, hw⟩) h1) (k, x) hx hw
theorem g55_ok (n : Nat) (a0 : List Int) (a1 : Int) {t : ρ55} (R : AV → Mem → Prop) (hR : ∀ r : ρ55, t = r → ∀ u m, Ans ((boolA r)) u m → R u m) : g55 n a0 a1 = some t → F55 (lstA intE a0) a1 R := by
  unfold g55 F55
  refine bind_b fun x21 h21 => ?_
  refine imp (opN_of (show _ = some ((blkV boolE 2 (List.replicate x21 false)), [(2, some ⟨encs boolE (List.replicate x21 false), 4⟩)]) from (mks_ok (E := boolE) (z := false) rfl rfl h21))) ?_
  refine imp (opP_of (show _ = some ((intA (a0.length : Int)), []) from rfl)) ?_
  refine imp ex_i64_b ?_
  exact fun hg => L55_0_ok n a0 a1 false (a0.length : Int) R  hR n _ hg (weak_mem [(90000, 2)] rfl rfl rfl (okW_cons (ent_lst (E := intE) _ false) (okW_cons (.inl (leV_refl _)) (okW_cons (.inl (leV_refl _)) (okW_cons (ent_blk (E := boolE) (id := 2) (l' := (List.replicate x21 false)) rfl rfl) (okW_cons (ent_lst (E := intE) _ false) (okW_cons (.inl (leV_refl _)) (okW_cons (.inl (leV_refl _)) okW_nil))))))) (okB_cons (okB_cells (cs := encs boolE (List.replicate x21 false)) (ty := 4) (encs_clean _) (show mget _ 2 = _ from (by first | rfl | (simp (disch := decide) only [mpushs_nil, mpushs_cons, mget_hd, mget_tl, mget_appW_o, mget_appW_n])))) okB_nil'))
theorem sg55 {n : Nat} {a0 : List Int} {a1 : Int} {t : ρ55} (h : g55 n a0 a1 = some t) : Says Try.prog KK.gl 55 [(lstA intE a0), (intA a1)] ((boolA t)) :=
  says_of_own (by first | rfl | simp [cleans, clean, encs_clean, En.cln]) (by first | rfl | simp [cleans, clean, encs_clean, En.cln]) (F55_own (lstA intE a0) a1 _ (g55_ok n a0 a1 (Ans ((boolA t))) (fun r e u m h => by rw [e]; exact h) h))
/- skyway/sequence.times -/
theorem B53_0_ok (n : Nat) (a0 : List TSequenceArrival) (a1 : List Int) (c7 : Bool) (c13 : Int) (k0_0 : Int) (k0_1 : Int) (k0_2 : Int) (k0_3 : Int) (k0_4 : Int) (k0_5 : Int) (k0_6 : Int) (k0_7 : Int) (k0_8 : Int) (k0_9 : Int) (k0_10 : Int) (k0_11 : Int) (k0_12 : Int) (k0_13 : Int) (k0_14 : Int) (k0_15 : Int) (v14 : Int) (L90000 : List Int) {t : (Int × List Int) ⊕ ρ53} (R : AV → Mem → Prop) (N0 : St → Prop) (hR : ∀ r : ρ53, t = (.inr r) → ∀ u m, Ans ((AV.tup [(lstA intE r.1), (boolA r.2)])) u m → R u m) (hN0 : ∀ y : Int × List Int, t = (.inl y) → ∀ s' : St, Weak KK 64 0 s' (h53_0 (lstA TSequenceArrival.E a0) (lstA intE a1) AV.nils c7 (ownV intE 90000 y.2) (lstA intE a1) c13 y.1 k0_0 k0_1 k0_2 k0_3 k0_4 k0_5 k0_6 k0_7 k0_8 k0_9 k0_10 k0_11 k0_12 k0_13 k0_14 k0_15 [(90000, ownB intE 3 y.2)]) → N0 s') : S53_0 n a0 a1 c7 c13 k0_0 k0_1 k0_2 k0_3 k0_4 k0_5 k0_6 k0_7 k0_8 k0_9 k0_10 k0_11 k0_12 k0_13 k0_14 k0_15 v14 L90000 = some t → B53_0 (lstA TSequenceArrival.E a0) (lstA intE a1) AV.nils c7 (ownV intE 90000 L90000) (lstA intE a1) c13 v14 k0_0 k0_1 k0_2 k0_3 k0_4 k0_5 k0_6 k0_7 k0_8 k0_9 k0_10 k0_11 k0_12 k0_13 k0_14 k0_15 [(90000, ownB intE 3 L90000)] R N0 := by
  unfold S53_0 B53_0
  refine cond_b (fun _ => ?_) (fun _ => ?_)
  · refine bind_b fun x26 h26 => ?_
    refine imp (opP_of (show _ = some ((AV.ept [(intA x26)] 0), []) from (idx_lst (E := intE) rfl h26))) ?_
    refine imp (opP_of (show _ = some ((intA x26), []) from rfl)) ?_
    refine imp ex_i64_b ?_
    refine bind_b fun x27 h27 => ?_
    refine imp (opP_of (show _ = some ((AV.ept [(strA x27.Call), (intA x27.Wake), (intA x27.Time), (intA x27.Latest)] 0), []) from (idx_lst (E := TSequenceArrival.E) rfl h27))) ?_
    refine imp (opP_of (show _ = some ((AV.ept [(strA x27.Call), (intA x27.Wake), (intA x27.Time), (intA x27.Latest)] 2), []) from rfl)) ?_
    refine imp (opP_of (show _ = some ((intA x27.Time), []) from rfl)) ?_
    refine imp ex_i64_b ?_
    refine cond_b (fun _ => ?_) (fun _ => ?_)
    · refine bind_b fun x28 h28 => ?_
      refine imp (opP_of (show _ = some ((AV.ptr 90000 ((((IntKind.wrap .i64 (v14 - (1))) : Int).toNat) * 1 + 0)), []) from (idx_own (E := intE) rfl h28))) ?_
      refine imp (opP_of (show _ = some ((intA x28), []) from (ldS_blk (E := intE) (l := L90000) (ty := 3) (o := 0) (own_some (ty := 3) (by first | rfl | (simp (disch := decide) only [mpushs_nil, mpushs_cons, mget_hd, mget_tl, mget_appW_o, mget_appW_n])) (getI_some h28).2) (getI_some h28).2 rfl (by decide) rfl))) ?_
      refine imp ex_i64_b ?_
      refine bind_b fun x29 h29 => ?_
      refine imp (opP_of (show _ = some ((AV.ept [(intA x29)] 0), []) from (idx_lst (E := intE) rfl h29))) ?_
      refine imp (opP_of (show _ = some ((intA x29), []) from rfl)) ?_
      refine imp ex_i64_b ?_
      refine bind_b fun x30 h30 => ?_
      refine imp (opP_of (show _ = some ((AV.ept [(strA x30.Call), (intA x30.Wake), (intA x30.Time), (intA x30.Latest)] 0), []) from (idx_lst (E := TSequenceArrival.E) rfl h30))) ?_
      refine imp (opP_of (show _ = some ((AV.ept [(strA x30.Call), (intA x30.Wake), (intA x30.Time), (intA x30.Latest)] 1), []) from rfl)) ?_
      refine imp (opP_of (show _ = some ((intA x30.Wake), []) from rfl)) ?_
      refine imp ex_i64_b ?_
      refine bind_b fun x31 h31 => ?_
      refine imp (opP_of (show _ = some ((AV.ept [(strA x31.Call), (intA x31.Wake), (intA x31.Time), (intA x31.Latest)] 0), []) from (idx_lst (E := TSequenceArrival.E) rfl h31))) ?_
      refine imp (opP_of (show _ = some ((AV.ept [(strA x31.Call), (intA x31.Wake), (intA x31.Time), (intA x31.Latest)] 1), []) from rfl)) ?_
      refine imp (opP_of (show _ = some ((intA x31.Wake), []) from rfl)) ?_
      refine imp ex_i64_b ?_
      refine bind_b fun x32 h32 => ?_
      refine imp (opP_of (show _ = some ((AV.ptr 0 (((x30.Wake : Int).toNat) * 4 + 0)), []) from (idxA_ok0 (l := ([(⟨k0_0, k0_1, k0_2, k0_3⟩ : T22), (⟨k0_4, k0_5, k0_6, k0_7⟩ : T22), (⟨k0_8, k0_9, k0_10, k0_11⟩ : T22), (⟨k0_12, k0_13, k0_14, k0_15⟩ : T22)] : List T22)) (len := 4) rfl h32))) ?_
      refine bind_b fun x33 h33 => ?_
      refine imp (opP_of (show _ = some ((AV.ptr 0 _), []) from (idxA_ok (l := ([x32.c0, x32.c1, x32.c2, x32.c3] : List Int)) (len := 4) rfl h33))) ?_
      refine imp (opP_of (show _ = some ((intA x33), []) from (ldS_row (E := T22.E) (E2 := intE) (l := ([(⟨k0_0, k0_1, k0_2, k0_3⟩ : T22), (⟨k0_4, k0_5, k0_6, k0_7⟩ : T22), (⟨k0_8, k0_9, k0_10, k0_11⟩ : T22), (⟨k0_12, k0_13, k0_14, k0_15⟩ : T22)] : List T22)) (l2 := ([x32.c0, x32.c1, x32.c2, x32.c3] : List Int)) (ty := 24) (by first | rfl | (simp (disch := decide) only [mpushs_nil, mpushs_cons, mget_hd, mget_tl, mget_appW_o, mget_appW_n])) (getI_some h32).2 rfl rfl (getI_some h33).2 rfl))) ?_
      refine imp ex_i64_b ?_
      refine imp (opP_of (show _ = some ((intA (if (IntKind.wrap .i64 (x28 + x33)) > x27.Time then (IntKind.wrap .i64 (x28 + x33)) else x27.Time)), []) from (by kernel_rfl))) ?_
      refine imp ex_i64_b ?_
      refine bind_b fun x34 h34 => ?_
      refine imp (opP_of (show _ = some ((AV.ept [(strA x34.Call), (intA x34.Wake), (intA x34.Time), (intA x34.Latest)] 0), []) from (idx_lst (E := TSequenceArrival.E) rfl h34))) ?_
      refine imp (opP_of (show _ = some ((AV.ept [(strA x34.Call), (intA x34.Wake), (intA x34.Time), (intA x34.Latest)] 3), []) from rfl)) ?_
      refine imp (opP_of (show _ = some ((intA x34.Latest), []) from rfl)) ?_
      refine imp ex_i64_b ?_
      refine cond_b (fun _ => ?_) (fun _ => ?_)
      · exact fun hg => retN rfl (hR _ (Option.some.inj hg).symm) (fzL_cons (fz_nils (E := intE) _) (fzL_cons (fz_sc _ _) fzL_nil))
      · refine imp (opN_of (show _ = some ((blkV intE 100049 ([(if (IntKind.wrap .i64 (x28 + x33)) > x27.Time then (IntKind.wrap .i64 (x28 + x33)) else x27.Time)] : List Int)), [(100049, some ⟨encs intE ([(if (IntKind.wrap .i64 (x28 + x33)) > x27.Time then (IntKind.wrap .i64 (x28 + x33)) else x27.Time)] : List Int), 3⟩)]) from rfl)) ?_
        refine bind_b fun x35 h35 => ?_
        refine imp (opN_of (show _ = some ((ownV intE 100050 (L90000 ++ ([(if (IntKind.wrap .i64 (x28 + x33)) > x27.Time then (IntKind.wrap .i64 (x28 + x33)) else x27.Time)] : List Int))), (appW intE 100050 90000 3 L90000 ([(if (IntKind.wrap .i64 (x28 + x33)) > x27.Time then (IntKind.wrap .i64 (x28 + x33)) else x27.Time)] : List Int))) from (app_own (E := intE) (l' := L90000) (xs := ([(if (IntKind.wrap .i64 (x28 + x33)) > x27.Time then (IntKind.wrap .i64 (x28 + x33)) else x27.Time)] : List Int)) rfl rfl (cellsOf_blk (E := intE) (ty := 3) rfl rfl (by first | rfl | (simp (disch := decide) only [mpushs_nil, mpushs_cons, mget_hd, mget_tl, mget_appW_o, mget_appW_n]))) (by simp) rfl (fun hne => Eq.trans (by first | rfl | (simp (disch := decide) only [mpushs_nil, mpushs_cons, mget_hd, mget_tl, mget_appW_o, mget_appW_n])) (ownB_ne hne)) h35))) ?_
        exact fun hg => hN0 _ (Option.some.inj hg).symm _ (weak_mem [(90000, 100050), (0, 0)] rfl rfl rfl (okW_cons (ent_lst (E := TSequenceArrival.E) _ false) (okW_cons (ent_lst (E := intE) _ false) (okW_cons (.inl (leV_refl _)) (okW_cons (.inl (leV_refl _)) (okW_cons (.inl (leV_refl _)) (okW_cons (ent_own (E := intE) (id := 100050) (l' := (L90000 ++ ([(if (IntKind.wrap .i64 (x28 + x33)) > x27.Time then (IntKind.wrap .i64 (x28 + x33)) else x27.Time)] : List Int))) rfl rfl) (okW_cons (ent_lst (E := intE) _ false) (okW_cons (.inl (leV_refl _)) (okW_cons (.inl (leV_refl _)) okW_nil))))))))) (okB_cons (okB_cells (cs := [(intA k0_0), (intA k0_1), (intA k0_2), (intA k0_3), (intA k0_4), (intA k0_5), (intA k0_6), (intA k0_7), (intA k0_8), (intA k0_9), (intA k0_10), (intA k0_11), (intA k0_12), (intA k0_13), (intA k0_14), (intA k0_15)]) (ty := 24) rfl (show mget _ 0 = _ from (by first | rfl | (simp (disch := decide) only [mpushs_nil, mpushs_cons, mget_hd, mget_tl, mget_appW_o, mget_appW_n])))) (okB_cons (okB_own (E := intE) (ty := 3) (l' := (L90000 ++ ([(if (IntKind.wrap .i64 (x28 + x33)) > x27.Time then (IntKind.wrap .i64 (x28 + x33)) else x27.Time)] : List Int))) rfl (show mget _ 100050 = _ from (by first | rfl | (simp (disch := decide) only [mpushs_nil, mpushs_cons, mget_hd, mget_tl, mget_appW_o, mget_appW_n])))) okB_nil')))
    · refine bind_b fun x36 h36 => ?_
      refine imp (opP_of (show _ = some ((AV.ept [(strA x36.Call), (intA x36.Wake), (intA x36.Time), (intA x36.Latest)] 0), []) from (idx_lst (E := TSequenceArrival.E) rfl h36))) ?_
      refine imp (opP_of (show _ = some ((AV.ept [(strA x36.Call), (intA x36.Wake), (intA x36.Time), (intA x36.Latest)] 3), []) from rfl)) ?_
      refine imp (opP_of (show _ = some ((intA x36.Latest), []) from rfl)) ?_
      refine imp ex_i64_b ?_
      refine cond_b (fun _ => ?_) (fun _ => ?_)
      · exact fun hg => retN rfl (hR _ (Option.some.inj hg).symm) (fzL_cons (fz_nils (E := intE) _) (fzL_cons (fz_sc _ _) fzL_nil))
      · refine imp (opN_of (show _ = some ((blkV intE 100023 ([x27.Time] : List Int)), [(100023, some ⟨encs intE ([x27.Time] : List Int), 3⟩)]) from rfl)) ?_
        refine bind_b fun x37 h37 => ?_
        refine imp (opN_of (show _ = some ((ownV intE 100024 (L90000 ++ ([x27.Time] : List Int))), (appW intE 100024 90000 3 L90000 ([x27.Time] : List Int))) from (app_own (E := intE) (l' := L90000) (xs := ([x27.Time] : List Int)) rfl rfl (cellsOf_blk (E := intE) (ty := 3) rfl rfl (by first | rfl | (simp (disch := decide) only [mpushs_nil, mpushs_cons, mget_hd, mget_tl, mget_appW_o, mget_appW_n]))) (by simp) rfl (fun hne => Eq.trans (by first | rfl | (simp (disch := decide) only [mpushs_nil, mpushs_cons, mget_hd, mget_tl, mget_appW_o, mget_appW_n])) (ownB_ne hne)) h37))) ?_
        exact fun hg => hN0 _ (Option.some.inj hg).symm _ (weak_mem [(90000, 100024), (0, 0)] rfl rfl rfl (okW_cons (ent_lst (E := TSequenceArrival.E) _ false) (okW_cons (ent_lst (E := intE) _ false) (okW_cons (.inl (leV_refl _)) (okW_cons (.inl (leV_refl _)) (okW_cons (.inl (leV_refl _)) (okW_cons (ent_own (E := intE) (id := 100024) (l' := (L90000 ++ ([x27.Time] : List Int))) rfl rfl) (okW_cons (ent_lst (E := intE) _ false) (okW_cons (.inl (leV_refl _)) (okW_cons (.inl (leV_refl _)) okW_nil))))))))) (okB_cons (okB_cells (cs := [(intA k0_0), (intA k0_1), (intA k0_2), (intA k0_3), (intA k0_4), (intA k0_5), (intA k0_6), (intA k0_7), (intA k0_8), (intA k0_9), (intA k0_10), (intA k0_11), (intA k0_12), (intA k0_13), (intA k0_14), (intA k0_15)]) (ty := 24) rfl (show mget _ 0 = _ from (by first | rfl | (simp (disch := decide) only [mpushs_nil, mpushs_cons, mget_hd, mget_tl, mget_appW_o, mget_appW_n])))) (okB_cons (okB_own (E := intE) (ty := 3) (l' := (L90000 ++ ([x27.Time] : List Int))) rfl (show mget _ 100024 = _ from (by first | rfl | (simp (disch := decide) only [mpushs_nil, mpushs_cons, mget_hd, mget_tl, mget_appW_o, mget_appW_n])))) okB_nil')))
  · exact fun hg => retN rfl (hR _ (Option.some.inj hg).symm) (fzL_cons (fz_own (E := intE) (ty := 3) (l' := L90000) _ rfl (by first | rfl | (simp (disch := decide) only [mpushs_nil, mpushs_cons, mget_hd, mget_tl, mget_appW_o, mget_appW_n]))) (fzL_cons (fz_sc _ _) fzL_nil))
theorem L53_0_ok (n : Nat) (a0 : List TSequenceArrival) (a1 : List Int) (c7 : Bool) (c13 : Int) (k0_0 : Int) (k0_1 : Int) (k0_2 : Int) (k0_3 : Int) (k0_4 : Int) (k0_5 : Int) (k0_6 : Int) (k0_7 : Int) (k0_8 : Int) (k0_9 : Int) (k0_10 : Int) (k0_11 : Int) (k0_12 : Int) (k0_13 : Int) (k0_14 : Int) (k0_15 : Int) {t : ρ53} (R : AV → Mem → Prop) (hR : ∀ r : ρ53, t = r → ∀ u m, Ans ((AV.tup [(lstA intE r.1), (boolA r.2)])) u m → R u m) (k : Nat) (x : Int × List Int) (hx : iterO (fun y : Int × List Int => S53_0 n a0 a1 c7 c13 k0_0 k0_1 k0_2 k0_3 k0_4 k0_5 k0_6 k0_7 k0_8 k0_9 k0_10 k0_11 k0_12 k0_13 k0_14 k0_15 y.1 y.2) k x = some t) {s : St} (hw : Weak KK 64 0 s (h53_0 (lstA TSequenceArrival.E a0) (lstA intE a1) AV.nils c7 (ownV intE 90000 x.2) (lstA intE a1) c13 x.1 k0_0 k0_1 k0_2 k0_3 k0_4 k0_5 k0_6 k0_7 k0_8 k0_9 k0_10 k0_11 k0_12 k0_13 k0_14 k0_15 [(90000, ownB intE 3 x.2)])) : Tri Try.prog KK 64 0 (.loop c53_0) s (q53_0 R ) :=
  L53_0 R  (σ := Nat × (Int × List Int)) (fun z => iterO (fun y : Int × List Int => S53_0 n a0 a1 c7 c13 k0_0 k0_1 k0_2 k0_3 k0_4 k0_5 k0_6 k0_7 k0_8 k0_9 k0_10 k0_11 k0_12 k0_13 k0_14 k0_15 y.1 y.2) z.1 z.2 = some t) (fun z => (lstA TSequenceArrival.E a0)) (fun z => (lstA intE a1)) (fun z => AV.nils) (fun z => c7) (fun z => (ownV intE 90000 z.2.2)) (fun z => (lstA intE a1)) (fun z => c13) (fun z => z.2.1) (fun z => k0_0) (fun z => k0_1) (fun z => k0_2) (fun z => k0_3) (fun z => k0_4) (fun z => k0_5) (fun z => k0_6) (fun z => k0_7) (fun z => k0_8) (fun z => k0_9) (fun z => k0_10) (fun z => k0_11) (fun z => k0_12) (fun z => k0_13) (fun z => k0_14) (fun z => k0_15) (fun z => [(90000, ownB intE 3 z.2.2)]) (fun z => z.1) (by
    rintro ⟨k, y⟩ h
    cases k with
    | zero => exact (iterO_zero h).elim
    | succ k =>
      obtain ⟨u, h1, h2, h3⟩ := iterO_elim h
      exact B53_0_ok n a0 a1 c7 c13 k0_0 k0_1 k0_2 k0_3 k0_4 k0_5 k0_6 k0_7 k0_8 k0_9 k0_10 k0_11 k0_12 k0_13 k0_14 k0_15 y.1 y.2 R  _ (fun r e => hR r (h3 _ e).symm)  (fun y' e s' hw => ⟨(k, y'), h2 _ e, Nat.lt_succ_self k, hw⟩) h1) (k, x) hx hw
theorem g53_ok (n : Nat) (a0 : List TSequenceArrival) (a1 : List Int) (a2 : TWakeTable) {t : ρ53} (R : AV → Mem → Prop) (hR : ∀ r : ρ53, t = r → ∀ u m, Ans ((AV.tup [(lstA intE r.1), (boolA r.2)])) u m → R u m) : g53 n a0 a1 a2 = some t → F53 (lstA TSequenceArrival.E a0) (lstA intE a1) a2.c0_0 a2.c0_1 a2.c0_2 a2.c0_3 a2.c1_0 a2.c1_1 a2.c1_2 a2.c1_3 a2.c2_0 a2.c2_1 a2.c2_2 a2.c2_3 a2.c3_0 a2.c3_1 a2.c3_2 a2.c3_3 R := by
  unfold g53 F53
  refine imp (opP_of (show _ = some ((intA (a1.length : Int)), []) from rfl)) ?_
  refine imp ex_i64_b ?_
  exact fun hg => L53_0_ok n a0 a1 false (a1.length : Int) a2.c0_0 a2.c0_1 a2.c0_2 a2.c0_3 a2.c1_0 a2.c1_1 a2.c1_2 a2.c1_3 a2.c2_0 a2.c2_1 a2.c2_2 a2.c2_3 a2.c3_0 a2.c3_1 a2.c3_2 a2.c3_3 R  hR n _ hg (weak_mem [(90000, 89500), (0, 0)] rfl rfl rfl (okW_cons (ent_lst (E := TSequenceArrival.E) _ false) (okW_cons (ent_lst (E := intE) _ false) (okW_cons (.inl (leV_refl _)) (okW_cons (.inl (leV_refl _)) (okW_cons (.inl (leV_refl _)) (okW_cons ent_nils_own (okW_cons (ent_lst (E := intE) _ false) (okW_cons (.inl (leV_refl _)) (okW_cons (.inl (leV_refl _)) okW_nil))))))))) (okB_cons (okB_cells (cs := [(intA a2.c0_0), (intA a2.c0_1), (intA a2.c0_2), (intA a2.c0_3), (intA a2.c1_0), (intA a2.c1_1), (intA a2.c1_2), (intA a2.c1_3), (intA a2.c2_0), (intA a2.c2_1), (intA a2.c2_2), (intA a2.c2_3), (intA a2.c3_0), (intA a2.c3_1), (intA a2.c3_2), (intA a2.c3_3)]) (ty := 24) rfl (show mget _ 0 = _ from (by first | rfl | (simp (disch := decide) only [mpushs_nil, mpushs_cons, mget_hd, mget_tl, mget_appW_o, mget_appW_n])))) (okB_cons okB_nil okB_nil')))
theorem sg53 {n : Nat} {a0 : List TSequenceArrival} {a1 : List Int} {a2 : TWakeTable} {t : ρ53} (h : g53 n a0 a1 a2 = some t) : Says Try.prog KK.gl 53 [(lstA TSequenceArrival.E a0), (lstA intE a1), (AV.agg [(intA a2.c0_0), (intA a2.c0_1), (intA a2.c0_2), (intA a2.c0_3), (intA a2.c1_0), (intA a2.c1_1), (intA a2.c1_2), (intA a2.c1_3), (intA a2.c2_0), (intA a2.c2_1), (intA a2.c2_2), (intA a2.c2_3), (intA a2.c3_0), (intA a2.c3_1), (intA a2.c3_2), (intA a2.c3_3)])] ((AV.tup [(lstA intE t.1), (boolA t.2)])) :=
  says_of_own (by first | rfl | simp [cleans, clean, encs_clean, En.cln]) (by first | rfl | simp [cleans, clean, encs_clean, En.cln]) (F53_own (lstA TSequenceArrival.E a0) (lstA intE a1) a2.c0_0 a2.c0_1 a2.c0_2 a2.c0_3 a2.c1_0 a2.c1_1 a2.c1_2 a2.c1_3 a2.c2_0 a2.c2_1 a2.c2_2 a2.c2_3 a2.c3_0 a2.c3_1 a2.c3_2 a2.c3_3 _ (g53_ok n a0 a1 a2 (Ans ((AV.tup [(lstA intE t.1), (boolA t.2)]))) (fun r e u m h => by rw [e]; exact h) h))
/- skyway/sequence.Times -/
theorem g32_ok (n : Nat) (a0 : List TSequenceArrival) (a1 : List Int) (a2 : TWakeTable) {t : ρ32} (R : AV → Mem → Prop) (hR : ∀ r : ρ32, t = r → ∀ u m, Ans ((AV.tup [(lstA intE r.1), (intA r.2)])) u m → R u m) : g32 n a0 a1 a2 = some t → F32 (lstA TSequenceArrival.E a0) (lstA intE a1) a2.c0_0 a2.c0_1 a2.c0_2 a2.c0_3 a2.c1_0 a2.c1_1 a2.c1_2 a2.c1_3 a2.c2_0 a2.c2_1 a2.c2_2 a2.c2_3 a2.c3_0 a2.c3_1 a2.c3_2 a2.c3_3 R := by
  unfold g32 F32
  refine bind_b fun x11 h11 => ?_
  refine imp (callQ_says (sg50 h11)) ?_
  refine imp ex_i64_b ?_
  refine cond_b (fun _ => ?_) (fun _ => ?_)
  · exact fun hg => retN rfl (hR _ (Option.some.inj hg).symm) (fzL_cons (fz_nils (E := intE) _) (fzL_cons (fz_sc _ _) fzL_nil))
  · refine bind_b fun x20 h20 => ?_
    refine imp (callQ_says (sg36 h20)) ?_
    refine imp ex_i64_b ?_
    refine cond_b (fun _ => ?_) (fun _ => ?_)
    · exact fun hg => retN rfl (hR _ (Option.some.inj hg).symm) (fzL_cons (fz_nils (E := intE) _) (fzL_cons (fz_sc _ _) fzL_nil))
    · refine imp (opP_of (show _ = some ((intA (a0.length : Int)), []) from rfl)) ?_
      refine imp ex_i64_b ?_
      refine bind_b fun x25 h25 => ?_
      refine imp (callQ_says (sg55 h25)) ?_
      refine imp exB_b ?_
      refine cond_b (fun _ => ?_) (fun _ => ?_)
      · exact fun hg => retN rfl (hR _ (Option.some.inj hg).symm) (fzL_cons (fz_nils (E := intE) _) (fzL_cons (fz_sc _ _) fzL_nil))
      · refine bind_b fun x38 h38 => ?_
        refine imp (callQ_says (sg53 h38)) ?_
        refine imp exT2_b ?_
        refine imp exB_b ?_
        refine cond_b (fun _ => ?_) (fun _ => ?_)
        · exact fun hg => retN rfl (hR _ (Option.some.inj hg).symm) (fzL_cons (fz_nils (E := intE) _) (fzL_cons (fz_sc _ _) fzL_nil))
        · exact fun hg => retN rfl (hR _ (Option.some.inj hg).symm) (fzL_cons (fz_lst (E := intE) _ _ false) (fzL_cons (fz_sc _ _) fzL_nil))
theorem sg32 {n : Nat} {a0 : List TSequenceArrival} {a1 : List Int} {a2 : TWakeTable} {t : ρ32} (h : g32 n a0 a1 a2 = some t) : Says Try.prog KK.gl 32 [(lstA TSequenceArrival.E a0), (lstA intE a1), (AV.agg [(intA a2.c0_0), (intA a2.c0_1), (intA a2.c0_2), (intA a2.c0_3), (intA a2.c1_0), (intA a2.c1_1), (intA a2.c1_2), (intA a2.c1_3), (intA a2.c2_0), (intA a2.c2_1), (intA a2.c2_2), (intA a2.c2_3), (intA a2.c3_0), (intA a2.c3_1), (intA a2.c3_2), (intA a2.c3_3)])] ((AV.tup [(lstA intE t.1), (intA t.2)])) :=
  says_of_own (by first | rfl | simp [cleans, clean, encs_clean, En.cln]) (by first | rfl | simp [cleans, clean, encs_clean, En.cln]) (F32_own (lstA TSequenceArrival.E a0) (lstA intE a1) a2.c0_0 a2.c0_1 a2.c0_2 a2.c0_3 a2.c1_0 a2.c1_1 a2.c1_2 a2.c1_3 a2.c2_0 a2.c2_1 a2.c2_2 a2.c2_3 a2.c3_0 a2.c3_1 a2.c3_2 a2.c3_3 _ (g32_ok n a0 a1 a2 (Ans ((AV.tup [(lstA intE t.1), (intA t.2)]))) (fun r e u m h => by rw [e]; exact h) h))
/- skyway/wake.Valid -/
theorem B16_1_ok (n : Nat) (a1 : List Int) (a2 : List Int) (c6 : Bool) (c7 : Int) (k0_0 : Int) (k0_1 : Int) (k0_2 : Int) (k0_3 : Int) (k0_4 : Int) (k0_5 : Int) (k0_6 : Int) (k0_7 : Int) (k0_8 : Int) (k0_9 : Int) (k0_10 : Int) (k0_11 : Int) (k0_12 : Int) (k0_13 : Int) (k0_14 : Int) (k0_15 : Int) (v12 : Int) {t : (Int) ⊕ ρ16} (R : AV → Mem → Prop) (N0 : St → Prop) (hR : ∀ r : ρ16, t = (.inr r) → ∀ u m, Ans ((AV.tup [(boolA r.1), (intA r.2)])) u m → R u m) (hN0 : ∀ y : Int, t = (.inl y) → ∀ s' : St, Weak KK 87 0 s' (h16_1 (lstA intE a1) (lstA intE a2) c6 c7 y k0_0 k0_1 k0_2 k0_3 k0_4 k0_5 k0_6 k0_7 k0_8 k0_9 k0_10 k0_11 k0_12 k0_13 k0_14 k0_15 []) → N0 s') : S16_1 n a1 a2 c6 c7 k0_0 k0_1 k0_2 k0_3 k0_4 k0_5 k0_6 k0_7 k0_8 k0_9 k0_10 k0_11 k0_12 k0_13 k0_14 k0_15 v12 = some t → B16_1 (lstA intE a1) (lstA intE a2) c6 c7 v12 k0_0 k0_1 k0_2 k0_3 k0_4 k0_5 k0_6 k0_7 k0_8 k0_9 k0_10 k0_11 k0_12 k0_13 k0_14 k0_15 [] R N0 := by
  unfold S16_1 B16_1
  refine imp (opP_of (show _ = some ((intA (a1.length : Int)), []) from rfl)) ?_
  refine imp ex_i64_b ?_
  refine cond_b (fun _ => ?_) (fun _ => ?_)
  · refine bind_b fun x48 h48 => ?_
    refine imp (opP_of (show _ = some ((AV.ept [(intA x48)] 0), []) from (idx_lst (E := intE) rfl h48))) ?_
    refine imp (opP_of (show _ = some ((intA x48), []) from rfl)) ?_
    refine imp ex_i64_b ?_
    refine bind_b fun x49 h49 => ?_
    refine imp (opP_of (show _ = some ((AV.ept [(intA x49)] 0), []) from (idx_lst (E := intE) rfl h49))) ?_
    refine imp (opP_of (show _ = some ((intA x49), []) from rfl)) ?_
    refine imp ex_i64_b ?_
    refine bind_b fun x50 h50 => ?_
    refine imp (opP_of (show _ = some ((AV.ept [(intA x50)] 0), []) from (idx_lst (E := intE) rfl h50))) ?_
    refine imp (opP_of (show _ = some ((intA x50), []) from rfl)) ?_
    refine imp ex_i64_b ?_
    refine bind_b fun x51 h51 => ?_
    refine imp (opP_of (show _ = some ((AV.ept [(intA x51)] 0), []) from (idx_lst (E := intE) rfl h51))) ?_
    refine imp (opP_of (show _ = some ((intA x51), []) from rfl)) ?_
    refine imp ex_i64_b ?_
    refine bind_b fun x52 h52 => ?_
    refine imp (opP_of (show _ = some ((AV.ptr 0 (((x50 : Int).toNat) * 4 + 0)), []) from (idxA_ok0 (l := ([(⟨k0_0, k0_1, k0_2, k0_3⟩ : T22), (⟨k0_4, k0_5, k0_6, k0_7⟩ : T22), (⟨k0_8, k0_9, k0_10, k0_11⟩ : T22), (⟨k0_12, k0_13, k0_14, k0_15⟩ : T22)] : List T22)) (len := 4) rfl h52))) ?_
    refine bind_b fun x53 h53 => ?_
    refine imp (opP_of (show _ = some ((AV.ptr 0 _), []) from (idxA_ok (l := ([x52.c0, x52.c1, x52.c2, x52.c3] : List Int)) (len := 4) rfl h53))) ?_
    refine imp (opP_of (show _ = some ((intA x53), []) from (ldS_row (E := T22.E) (E2 := intE) (l := ([(⟨k0_0, k0_1, k0_2, k0_3⟩ : T22), (⟨k0_4, k0_5, k0_6, k0_7⟩ : T22), (⟨k0_8, k0_9, k0_10, k0_11⟩ : T22), (⟨k0_12, k0_13, k0_14, k0_15⟩ : T22)] : List T22)) (l2 := ([x52.c0, x52.c1, x52.c2, x52.c3] : List Int)) (ty := 24) (by first | rfl | (simp (disch := decide) only [mpushs_nil, mpushs_cons, mget_hd, mget_tl, mget_appW_o, mget_appW_n])) (getI_some h52).2 rfl rfl (getI_some h53).2 rfl))) ?_
    refine imp ex_i64_b ?_
    refine cond_b (fun _ => ?_) (fun _ => ?_)
    · exact fun hg => retN rfl (hR _ (Option.some.inj hg).symm) (fzL_cons (fz_sc _ _) (fzL_cons (fz_sc _ _) fzL_nil))
    · exact fun hg => hN0 _ (Option.some.inj hg).symm _ (weak_mem [(0, 0)] rfl rfl rfl (okW_cons (ent_lst (E := intE) _ false) (okW_cons (ent_lst (E := intE) _ false) (okW_cons (.inl (leV_refl _)) (okW_cons (.inl (leV_refl _)) (okW_cons (.inl (leV_refl _)) (okW_cons (.inl (leV_refl _)) okW_nil)))))) (okB_cons (okB_cells (cs := [(intA k0_0), (intA k0_1), (intA k0_2), (intA k0_3), (intA k0_4), (intA k0_5), (intA k0_6), (intA k0_7), (intA k0_8), (intA k0_9), (intA k0_10), (intA k0_11), (intA k0_12), (intA k0_13), (intA k0_14), (intA k0_15)]) (ty := 24) rfl (show mget _ 0 = _ from (by first | rfl | (simp (disch := decide) only [mpushs_nil, mpushs_cons, mget_hd, mget_tl, mget_appW_o, mget_appW_n])))) okB_nil'))
  · exact fun hg => retN rfl (hR _ (Option.some.inj hg).symm) (fzL_cons (fz_sc _ _) (fzL_cons (fz_sc _ _) fzL_nil))
theorem L16_1_ok (n : Nat) (a1 : List Int) (a2 : List Int) (c6 : Bool) (c7 : Int) (k0_0 : Int) (k0_1 : Int) (k0_2 : Int) (k0_3 : Int) (k0_4 : Int) (k0_5 : Int) (k0_6 : Int) (k0_7 : Int) (k0_8 : Int) (k0_9 : Int) (k0_10 : Int) (k0_11 : Int) (k0_12 : Int) (k0_13 : Int) (k0_14 : Int) (k0_15 : Int) {t : ρ16} (R : AV → Mem → Prop) (hR : ∀ r : ρ16, t = r → ∀ u m, Ans ((AV.tup [(boolA r.1), (intA r.2)])) u m → R u m) (k : Nat) (x : Int) (hx : iterO (fun y : Int => S16_1 n a1 a2 c6 c7 k0_0 k0_1 k0_2 k0_3 k0_4 k0_5 k0_6 k0_7 k0_8 k0_9 k0_10 k0_11 k0_12 k0_13 k0_14 k0_15 y) k x = some t) {s : St} (hw : Weak KK 87 0 s (h16_1 (lstA intE a1) (lstA intE a2) c6 c7 x k0_0 k0_1 k0_2 k0_3 k0_4 k0_5 k0_6 k0_7 k0_8 k0_9 k0_10 k0_11 k0_12 k0_13 k0_14 k0_15 [])) : Tri Try.prog KK 87 0 (.loop c16_1) s (q16_1 R ) :=
  L16_1 R  (σ := Nat × (Int)) (fun z => iterO (fun y : Int => S16_1 n a1 a2 c6 c7 k0_0 k0_1 k0_2 k0_3 k0_4 k0_5 k0_6 k0_7 k0_8 k0_9 k0_10 k0_11 k0_12 k0_13 k0_14 k0_15 y) z.1 z.2 = some t) (fun z => (lstA intE a1)) (fun z => (lstA intE a2)) (fun z => c6) (fun z => c7) (fun z => z.2) (fun z => k0_0) (fun z => k0_1) (fun z => k0_2) (fun z => k0_3) (fun z => k0_4) (fun z => k0_5) (fun z => k0_6) (fun z => k0_7) (fun z => k0_8) (fun z => k0_9) (fun z => k0_10) (fun z => k0_11) (fun z => k0_12) (fun z => k0_13) (fun z => k0_14) (fun z => k0_15) (fun z => []) (fun z => z.1) (by
    rintro ⟨k, y⟩ h
    cases k with
    | zero => exact (iterO_zero h).elim
    | succ k =>
      obtain ⟨u, h1, h2, h3⟩ := iterO_elim h
      exact B16_1_ok n a1 a2 c6 c7 k0_0 k0_1 k0_2 k0_3 k0_4 k0_5 k0_6 k0_7 k0_8 k0_9 k0_10 k0_11 k0_12 k0_13 k0_14 k0_15 y R  _ (fun r e => hR r (h3 _ e).symm)  (fun y' e s' hw => ⟨(k, y'), h2 _ e, Nat.lt_succ_self k, hw⟩) h1) (k, x) hx hw
theorem B16_0_ok (n : Nat) (a1 : List Int) (a2 : List Int) (c6 : Bool) (c7 : Int) (c34 : Int) (k0_0 : Int) (k0_1 : Int) (k0_2 : Int) (k0_3 : Int) (k0_4 : Int) (k0_5 : Int) (k0_6 : Int) (k0_7 : Int) (k0_8 : Int) (k0_9 : Int) (k0_10 : Int) (k0_11 : Int) (k0_12 : Int) (k0_13 : Int) (k0_14 : Int) (k0_15 : Int) (v35 : Int) {t : (Int) ⊕ ρ16} (R : AV → Mem → Prop) (N0 : St → Prop) (hR : ∀ r : ρ16, t = (.inr r) → ∀ u m, Ans ((AV.tup [(boolA r.1), (intA r.2)])) u m → R u m) (hN0 : ∀ y : Int, t = (.inl y) → ∀ s' : St, Weak KK 87 0 s' (h16_0 (lstA intE a1) (lstA intE a2) c6 c7 (lstA intE a1) c34 y k0_0 k0_1 k0_2 k0_3 k0_4 k0_5 k0_6 k0_7 k0_8 k0_9 k0_10 k0_11 k0_12 k0_13 k0_14 k0_15 []) → N0 s') : S16_0 n a1 a2 c6 c7 c34 k0_0 k0_1 k0_2 k0_3 k0_4 k0_5 k0_6 k0_7 k0_8 k0_9 k0_10 k0_11 k0_12 k0_13 k0_14 k0_15 v35 = some t → B16_0 (lstA intE a1) (lstA intE a2) c6 c7 (lstA intE a1) c34 v35 k0_0 k0_1 k0_2 k0_3 k0_4 k0_5 k0_6 k0_7 k0_8 k0_9 k0_10 k0_11 k0_12 k0_13 k0_14 k0_15 [] R N0 := by
  unfold S16_0 B16_0
  refine cond_b (fun _ => ?_) (fun _ => ?_)
  · refine bind_b fun x44 h44 => ?_
    refine imp (opP_of (show _ = some ((AV.ept [(intA x44)] 0), []) from (idx_lst (E := intE) rfl h44))) ?_
    refine imp (opP_of (show _ = some ((intA x44), []) from rfl)) ?_
    refine imp ex_i64_b ?_
    refine bind_b fun x45 h45 => ?_
    refine imp (callQ_says (sg37 h45)) ?_
    refine imp ex_i64_b ?_
    refine cond_b (fun _ => ?_) (fun _ => ?_)
    · exact fun hg => retN rfl (hR _ (Option.some.inj hg).symm) (fzL_cons (fz_sc _ _) (fzL_cons (fz_sc _ _) fzL_nil))
    · refine bind_b fun x46 h46 => ?_
      refine imp (opP_of (show _ = some ((AV.ept [(intA x46)] 0), []) from (idx_lst (E := intE) rfl h46))) ?_
      refine imp (opP_of (show _ = some ((intA x46), []) from rfl)) ?_
      refine imp ex_i64_b ?_
      refine cond_b (fun _ => ?_) (fun _ => ?_)
      · exact fun hg => retN rfl (hR _ (Option.some.inj hg).symm) (fzL_cons (fz_sc _ _) (fzL_cons (fz_sc _ _) fzL_nil))
      · refine bind_b fun x47 h47 => ?_
        refine imp (opP_of (show _ = some ((AV.ept [(intA x47)] 0), []) from (idx_lst (E := intE) rfl h47))) ?_
        refine imp (opP_of (show _ = some ((intA x47), []) from rfl)) ?_
        refine imp ex_i64_b ?_
        refine cond_b (fun _ => ?_) (fun _ => ?_)
        · exact fun hg => retN rfl (hR _ (Option.some.inj hg).symm) (fzL_cons (fz_sc _ _) (fzL_cons (fz_sc _ _) fzL_nil))
        · exact fun hg => hN0 _ (Option.some.inj hg).symm _ (weak_mem [(0, 0)] rfl rfl rfl (okW_cons (ent_lst (E := intE) _ false) (okW_cons (ent_lst (E := intE) _ false) (okW_cons (.inl (leV_refl _)) (okW_cons (.inl (leV_refl _)) (okW_cons (.inl (leV_refl _)) (okW_cons (ent_lst (E := intE) _ false) (okW_cons (.inl (leV_refl _)) (okW_cons (.inl (leV_refl _)) okW_nil)))))))) (okB_cons (okB_cells (cs := [(intA k0_0), (intA k0_1), (intA k0_2), (intA k0_3), (intA k0_4), (intA k0_5), (intA k0_6), (intA k0_7), (intA k0_8), (intA k0_9), (intA k0_10), (intA k0_11), (intA k0_12), (intA k0_13), (intA k0_14), (intA k0_15)]) (ty := 24) rfl (show mget _ 0 = _ from (by first | rfl | (simp (disch := decide) only [mpushs_nil, mpushs_cons, mget_hd, mget_tl, mget_appW_o, mget_appW_n])))) okB_nil'))
  · refine mapInr_b fun t0 e0 => ?_
    exact fun hg => L16_1_ok n a1 a2 c6 c7 k0_0 k0_1 k0_2 k0_3 k0_4 k0_5 k0_6 k0_7 k0_8 k0_9 k0_10 k0_11 k0_12 k0_13 k0_14 k0_15 R  (fun r e => hR r (e0.trans (congrArg Sum.inr e))) n _ hg (weak_mem [(0, 0)] rfl rfl rfl (okW_cons (ent_lst (E := intE) _ false) (okW_cons (ent_lst (E := intE) _ false) (okW_cons (.inl (leV_refl _)) (okW_cons (.inl (leV_refl _)) (okW_cons (.inl (leV_refl _)) (okW_cons (.inl (leV_refl _)) okW_nil)))))) (okB_cons (okB_cells (cs := [(intA k0_0), (intA k0_1), (intA k0_2), (intA k0_3), (intA k0_4), (intA k0_5), (intA k0_6), (intA k0_7), (intA k0_8), (intA k0_9), (intA k0_10), (intA k0_11), (intA k0_12), (intA k0_13), (intA k0_14), (intA k0_15)]) (ty := 24) rfl (show mget _ 0 = _ from (by first | rfl | (simp (disch := decide) only [mpushs_nil, mpushs_cons, mget_hd, mget_tl, mget_appW_o, mget_appW_n])))) okB_nil'))
theorem L16_0_ok (n : Nat) (a1 : List Int) (a2 : List Int) (c6 : Bool) (c7 : Int) (c34 : Int) (k0_0 : Int) (k0_1 : Int) (k0_2 : Int) (k0_3 : Int) (k0_4 : Int) (k0_5 : Int) (k0_6 : Int) (k0_7 : Int) (k0_8 : Int) (k0_9 : Int) (k0_10 : Int) (k0_11 : Int) (k0_12 : Int) (k0_13 : Int) (k0_14 : Int) (k0_15 : Int) {t : ρ16} (R : AV → Mem → Prop) (hR : ∀ r : ρ16, t = r → ∀ u m, Ans ((AV.tup [(boolA r.1), (intA r.2)])) u m → R u m) (k : Nat) (x : Int) (hx : iterO (fun y : Int => S16_0 n a1 a2 c6 c7 c34 k0_0 k0_1 k0_2 k0_3 k0_4 k0_5 k0_6 k0_7 k0_8 k0_9 k0_10 k0_11 k0_12 k0_13 k0_14 k0_15 y) k x = some t) {s : St} (hw : Weak KK 87 0 s (h16_0 (lstA intE a1) (lstA intE a2) c6 c7 (lstA intE a1) c34 x k0_0 k0_1 k0_2 k0_3 k0_4 k0_5 k0_6 k0_7 k0_8 k0_9 k0_10 k0_11 k0_12 k0_13 k0_14 k0_15 [])) : Tri Try.prog KK 87 0 (.loop c16_0) s (q16_0 R ) :=
  L16_0 R  (σ := Nat × (Int)) (fun z => iterO (fun y : Int => S16_0 n a1 a2 c6 c7 c34 k0_0 k0_1 k0_2 k0_3 k0_4 k0_5 k0_6 k0_7 k0_8 k0_9 k0_10 k0_11 k0_12 k0_13 k0_14 k0_15 y) z.1 z.2 = some t) (fun z => (lstA intE a1)) (fun z => (lstA intE a2)) (fun z => c6) (fun z => c7) (fun z => (lstA intE a1)) (fun z => c34) (fun z => z.2) (fun z => k0_0) (fun z => k0_1) (fun z => k0_2) (fun z => k0_3) (fun z => k0_4) (fun z => k0_5) (fun z => k0_6) (fun z => k0_7) (fun z => k0_8) (fun z => k0_9) (fun z => k0_10) (fun z => k0_11) (fun z => k0_12) (fun z => k0_13) (fun z => k0_14) (fun z => k0_15) (fun z => []) (fun z => z.1) (by
    rintro ⟨k, y⟩ h
    cases k with
    | zero => exact (iterO_zero h).elim
    | succ k =>
      obtain ⟨u, h1, h2, h3⟩ := iterO_elim h
      exact B16_0_ok n a1 a2 c6 c7 c34 k0_0 k0_1 k0_2 k0_3 k0_4 k0_5 k0_6 k0_7 k0_8 k0_9 k0_10 k0_11 k0_12 k0_13 k0_14 k0_15 y R  _ (fun r e => hR r (h3 _ e).symm)  (fun y' e s' hw => ⟨(k, y'), h2 _ e, Nat.lt_succ_self k, hw⟩) h1) (k, x) hx hw
theorem g16_ok (n : Nat) (a0 : TWakeTable) (a1 : List Int) (a2 : List Int) {t : ρ16} (R : AV → Mem → Prop) (hR : ∀ r : ρ16, t = r → ∀ u m, Ans ((AV.tup [(boolA r.1), (intA r.2)])) u m → R u m) : g16 n a0 a1 a2 = some t → F16 a0.c0_0 a0.c0_1 a0.c0_2 a0.c0_3 a0.c1_0 a0.c1_1 a0.c1_2 a0.c1_3 a0.c2_0 a0.c2_1 a0.c2_2 a0.c2_3 a0.c3_0 a0.c3_1 a0.c3_2 a0.c3_3 (lstA intE a1) (lstA intE a2) R := by
  unfold g16 F16
  refine bind_b fun x43 h43 => ?_
  refine imp (callQ_says (sg36 h43)) ?_
  refine imp ex_i64_b ?_
  refine cond_b (fun _ => ?_) (fun _ => ?_)
  · exact fun hg => retN rfl (hR _ (Option.some.inj hg).symm) (fzL_cons (fz_sc _ _) (fzL_cons (fz_sc _ _) fzL_nil))
  · refine imp (opP_of (show _ = some ((intA (a1.length : Int)), []) from rfl)) ?_
    refine imp ex_i64_b ?_
    refine cond_b (fun _ => ?_) (fun _ => ?_)
    · exact fun hg => retN rfl (hR _ (Option.some.inj hg).symm) (fzL_cons (fz_sc _ _) (fzL_cons (fz_sc _ _) fzL_nil))
    · refine imp (opP_of (show _ = some ((intA (a2.length : Int)), []) from rfl)) ?_
      refine imp ex_i64_b ?_
      refine cond_b (fun _ => ?_) (fun _ => ?_)
      · exact fun hg => retN rfl (hR _ (Option.some.inj hg).symm) (fzL_cons (fz_sc _ _) (fzL_cons (fz_sc _ _) fzL_nil))
      · refine imp (opP_of (show _ = some ((intA (a1.length : Int)), []) from rfl)) ?_
        refine imp ex_i64_b ?_
        refine imp (opP_of (show _ = some ((intA (a2.length : Int)), []) from rfl)) ?_
        refine imp ex_i64_b ?_
        refine cond_b (fun _ => ?_) (fun _ => ?_)
        · exact fun hg => retN rfl (hR _ (Option.some.inj hg).symm) (fzL_cons (fz_sc _ _) (fzL_cons (fz_sc _ _) fzL_nil))
        · refine imp (opP_of (show _ = some ((intA (a1.length : Int)), []) from rfl)) ?_
          refine imp ex_i64_b ?_
          exact fun hg => L16_0_ok n a1 a2 false (0) (a1.length : Int) a0.c0_0 a0.c0_1 a0.c0_2 a0.c0_3 a0.c1_0 a0.c1_1 a0.c1_2 a0.c1_3 a0.c2_0 a0.c2_1 a0.c2_2 a0.c2_3 a0.c3_0 a0.c3_1 a0.c3_2 a0.c3_3 R  hR n _ hg (weak_mem [(0, 0)] rfl rfl rfl (okW_cons (ent_lst (E := intE) _ false) (okW_cons (ent_lst (E := intE) _ false) (okW_cons (.inl (leV_refl _)) (okW_cons (.inl (leV_refl _)) (okW_cons (.inl (leV_refl _)) (okW_cons (ent_lst (E := intE) _ false) (okW_cons (.inl (leV_refl _)) (okW_cons (.inl (leV_refl _)) okW_nil)))))))) (okB_cons (okB_cells (cs := [(intA a0.c0_0), (intA a0.c0_1), (intA a0.c0_2), (intA a0.c0_3), (intA a0.c1_0), (intA a0.c1_1), (intA a0.c1_2), (intA a0.c1_3), (intA a0.c2_0), (intA a0.c2_1), (intA a0.c2_2), (intA a0.c2_3), (intA a0.c3_0), (intA a0.c3_1), (intA a0.c3_2), (intA a0.c3_3)]) (ty := 24) rfl (show mget _ 0 = _ from (by first | rfl | (simp (disch := decide) only [mpushs_nil, mpushs_cons, mget_hd, mget_tl, mget_appW_o, mget_appW_n])))) okB_nil'))
theorem sg16 {n : Nat} {a0 : TWakeTable} {a1 : List Int} {a2 : List Int} {t : ρ16} (h : g16 n a0 a1 a2 = some t) : Says Try.prog KK.gl 16 [(AV.agg [(intA a0.c0_0), (intA a0.c0_1), (intA a0.c0_2), (intA a0.c0_3), (intA a0.c1_0), (intA a0.c1_1), (intA a0.c1_2), (intA a0.c1_3), (intA a0.c2_0), (intA a0.c2_1), (intA a0.c2_2), (intA a0.c2_3), (intA a0.c3_0), (intA a0.c3_1), (intA a0.c3_2), (intA a0.c3_3)]), (lstA intE a1), (lstA intE a2)] ((AV.tup [(boolA t.1), (intA t.2)])) :=
  says_of_own (by first | rfl | simp [cleans, clean, encs_clean, En.cln]) (by first | rfl | simp [cleans, clean, encs_clean, En.cln]) (F16_own a0.c0_0 a0.c0_1 a0.c0_2 a0.c0_3 a0.c1_0 a0.c1_1 a0.c1_2 a0.c1_3 a0.c2_0 a0.c2_1 a0.c2_2 a0.c2_3 a0.c3_0 a0.c3_1 a0.c3_2 a0.c3_3 (lstA intE a1) (lstA intE a2) _ (g16_ok n a0 a1 a2 (Ans ((AV.tup [(boolA t.1), (intA t.2)]))) (fun r e u m h => by rw [e]; exact h) h))
end Go.Proofs.Ytfmodgffhbljoaa
