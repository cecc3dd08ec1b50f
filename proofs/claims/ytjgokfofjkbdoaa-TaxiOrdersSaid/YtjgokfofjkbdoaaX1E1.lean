/- Plain functional programs out of the program's functions, with proofs that the functions compute them; printed by wip/Ext.lean.txt. -/
import Derived.Test.YtjgokfofjkbdoaaX1G
import Derived.Test.YtjgokfofjkbdoaaX1F1
import Derived.Test.YtjgokfofjkbdoaaX1S
set_option linter.unusedVariables false
set_option linter.unusedSimpArgs false
set_option maxRecDepth 100000
namespace Go.Proofs.Ytjgokfofjkbdoaa
/- skyway/skywaykeep3.taxiFact -/
theorem sg5 {n : Nat} {t : ρ5} (h : g5 n = some t) : Says Try.prog KK.gl 5 [] (boolA t) := by
  cases h
  exact says_of_evals (K := KF) fol (k := 60) (by decide +kernel)
/- skyway/chart.Name -/
theorem B18_0_ok (n : Nat) (c2 : Bool) (c14 : List UInt8) (c15 : Int) (v16 : Int) {t : (Int) ⊕ ρ18} (R : AV → Mem → Prop) (N0 : St → Prop) (hR : ∀ r : ρ18, t = (.inr r) → ∀ u m, Ans ((boolA r)) u m → R u m) (hN0 : ∀ y : Int, t = (.inl y) → ∀ s' : St, Weak KK 41 0 s' (h18_0 c2 (lstA byteE c14) c15 y []) → N0 s') : S18_0 n c2 c14 c15 v16 = some t → B18_0 c2 (lstA byteE c14) c15 v16 [] R N0 := by
  unfold S18_0 B18_0
  refine cond_b (fun _ => ?_) (fun _ => ?_)
  · refine bind_b fun x3 h3 => ?_
    refine imp (opP_of (show _ = some ((AV.ept [(AV.sc (.int .u8 (x3.toNat : Int)))] 0), []) from (idx_lst (E := byteE) rfl h3))) ?_
    refine imp (opP_of (show _ = some ((AV.sc (.int .u8 (x3.toNat : Int))), []) from rfl)) ?_
    refine imp ex_u8_b ?_
    refine cond_b (fun _ => ?_) (fun _ => ?_)
    · refine cond_b (fun _ => ?_) (fun _ => ?_)
      · exact fun hg => hN0 _ (Option.some.inj hg).symm _ (weak_mem [] rfl rfl rfl (okW_cons (.inl (leV_refl _)) (okW_cons (ent_lst (E := byteE) _ false) (okW_cons (.inl (leV_refl _)) (okW_cons (.inl (leV_refl _)) okW_nil)))) okB_nil')
      · refine cond_b (fun _ => ?_) (fun _ => ?_)
        · refine cond_b (fun _ => ?_) (fun _ => ?_)
          · refine cond_b (fun _ => ?_) (fun _ => ?_)
            · exact fun hg => ret1 (hR _ (Option.some.inj hg).symm) (fz_sc _ _)
            · exact fun hg => hN0 _ (Option.some.inj hg).symm _ (weak_mem [] rfl rfl rfl (okW_cons (.inl (leV_refl _)) (okW_cons (ent_lst (E := byteE) _ false) (okW_cons (.inl (leV_refl _)) (okW_cons (.inl (leV_refl _)) okW_nil)))) okB_nil')
          · exact fun hg => ret1 (hR _ (Option.some.inj hg).symm) (fz_sc _ _)
        · exact fun hg => ret1 (hR _ (Option.some.inj hg).symm) (fz_sc _ _)
    · refine cond_b (fun _ => ?_) (fun _ => ?_)
      · refine cond_b (fun _ => ?_) (fun _ => ?_)
        · refine cond_b (fun _ => ?_) (fun _ => ?_)
          · exact fun hg => ret1 (hR _ (Option.some.inj hg).symm) (fz_sc _ _)
          · exact fun hg => hN0 _ (Option.some.inj hg).symm _ (weak_mem [] rfl rfl rfl (okW_cons (.inl (leV_refl _)) (okW_cons (ent_lst (E := byteE) _ false) (okW_cons (.inl (leV_refl _)) (okW_cons (.inl (leV_refl _)) okW_nil)))) okB_nil')
        · exact fun hg => ret1 (hR _ (Option.some.inj hg).symm) (fz_sc _ _)
      · exact fun hg => ret1 (hR _ (Option.some.inj hg).symm) (fz_sc _ _)
  · exact fun hg => ret1 (hR _ (Option.some.inj hg).symm) (fz_sc _ _)
theorem L18_0_ok (n : Nat) (c2 : Bool) (c14 : List UInt8) (c15 : Int) {t : ρ18} (R : AV → Mem → Prop) (hR : ∀ r : ρ18, t = r → ∀ u m, Ans ((boolA r)) u m → R u m) (k : Nat) (x : Int) (hx : iterO (fun y : Int => S18_0 n c2 c14 c15 y) k x = some t) {s : St} (hw : Weak KK 41 0 s (h18_0 c2 (lstA byteE c14) c15 x [])) : Tri Try.prog KK 41 0 (.loop c18_0) s (q18_0 R ) :=
  L18_0 R  (σ := Nat × (Int)) (fun z => iterO (fun y : Int => S18_0 n c2 c14 c15 y) z.1 z.2 = some t) (fun z => c2) (fun z => (lstA byteE c14)) (fun z => c15) (fun z => z.2) (fun z => []) (fun z => z.1) (by
    rintro ⟨k, y⟩ h
    cases k with
    | zero => exact (iterO_zero h).elim
    | succ k =>
      obtain ⟨u, h1, h2, h3⟩ := iterO_elim h
      exact B18_0_ok n c2 c14 c15 y R  _ (fun r e => hR r (h3 _ e).symm)  (fun y' e s' hw => ⟨(k, y'), h2 _ e, Nat.lt_succ_self k, hw⟩) h1) (k, x) hx hw
theorem g18_ok (n : Nat) (a0 : ByteArray) {t : ρ18} (R : AV → Mem → Prop) (hR : ∀ r : ρ18, t = r → ∀ u m, Ans ((boolA r)) u m → R u m) : g18 n a0 = some t → F18 a0 R := by
  unfold g18 F18
  refine imp (opP_of (show _ = some ((intA (a0.size : Int)), []) from (by kernel_rfl))) ?_
  refine imp ex_i64_b ?_
  refine cond_b (fun _ => ?_) (fun _ => ?_)
  · exact fun hg => ret1 (hR _ (Option.some.inj hg).symm) (fz_sc _ _)
  · refine imp (opP_of (show _ = some ((intA (a0.size : Int)), []) from (by kernel_rfl))) ?_
    refine imp ex_i64_b ?_
    refine cond_b (fun _ => ?_) (fun _ => ?_)
    · exact fun hg => ret1 (hR _ (Option.some.inj hg).symm) (fz_sc _ _)
    · refine bind_b fun x2 h2 => ?_
      refine imp (opP_of (show _ = some ((lstA byteE (a0.data.toList)), []) from (opA_bytes (e := 5) (by kernel_rfl) (by kernel_rfl) (by kernel_rfl) h2))) ?_
      refine imp (opP_of (show _ = some ((intA ((a0.data.toList).length : Int)), []) from rfl)) ?_
      refine imp ex_i64_b ?_
      exact fun hg => L18_0_ok n false (a0.data.toList) ((a0.data.toList).length : Int) R  hR n _ hg (weak_mem [] rfl rfl rfl (okW_cons (.inl (leV_refl _)) (okW_cons (ent_lst (E := byteE) _ false) (okW_cons (.inl (leV_refl _)) (okW_cons (.inl (leV_refl _)) okW_nil)))) okB_nil')
theorem sg18 {n : Nat} {a0 : ByteArray} {t : ρ18} (h : g18 n a0 = some t) : Says Try.prog KK.gl 18 [(strA a0)] ((boolA t)) :=
  says_of_own (by first | rfl | simp [cleans, clean, encs_clean, En.cln]) (by first | rfl | simp [cleans, clean, encs_clean, En.cln]) (F18_own a0 _ (g18_ok n a0 (Ans ((boolA t))) (fun r e u m h => by rw [e]; exact h) h))
/- skyway/taxi.stand$1 -/
theorem g22_ok (n : Nat) (a0 : TTaxiStand) (a1_0 : ByteArray) {t : ρ22} (R : AV → Mem → Prop) (hR : ∀ r : ρ22, t = r → ∀ u m, Ans ((boolA r)) u m → R u m) : g22 n a0 a1_0 = some t → F22 a0.Name a0.Time (AV.ept [(strA a1_0)] 0) R := by
  unfold g22 F22
  refine imp (opP_of (show _ = some ((strA a1_0), []) from rfl)) ?_
  refine imp exStr_b ?_
  exact fun hg => ret1 (hR _ (Option.some.inj hg).symm) (fz_sc _ _)
theorem sg22 {n : Nat} {a0 : TTaxiStand} {a1_0 : ByteArray} {t : ρ22} (h : g22 n a0 a1_0 = some t) : Says Try.prog KK.gl 22 [(AV.agg [(strA a0.Name), (intA a0.Time)]), (AV.ept [(strA a1_0)] 0)] ((boolA t)) :=
  says_of_own (by first | rfl | simp [cleans, clean, encs_clean, En.cln]) (by first | rfl | simp [cleans, clean, encs_clean, En.cln]) (F22_own a0.Name a0.Time (AV.ept [(strA a1_0)] 0) _ (g22_ok n a0 a1_0 (Ans ((boolA t))) (fun r e u m h => by rw [e]; exact h) h))
/- slices.IndexFunc[[]skyway/api.TaxiStand,skyway/api.TaxiStand] -/
theorem B21_0_ok (n : Nat) (a0 : List TTaxiStand) (a1_0_0 : ByteArray) (c4 : Int) (c7 : Int) (v8 : Int) {t : (Int) ⊕ ρ21} (R : AV → Mem → Prop) (N0 : St → Prop) (hR : ∀ r : ρ21, t = (.inr r) → ∀ u m, Ans ((intA r)) u m → R u m) (hN0 : ∀ y : Int, t = (.inl y) → ∀ s' : St, Weak KK 19 0 s' (h21_0 (lstA TTaxiStand.E a0) (AV.fn 22 [(AV.ept [(strA a1_0_0)] 0)]) c4 c7 y []) → N0 s') : S21_0 n a0 a1_0_0 c4 c7 v8 = some t → B21_0 (lstA TTaxiStand.E a0) (AV.fn 22 [(AV.ept [(strA a1_0_0)] 0)]) c4 c7 v8 [] R N0 := by
  unfold S21_0 B21_0
  refine cond_b (fun _ => ?_) (fun _ => ?_)
  · refine bind_b fun x6 h6 => ?_
    refine imp (opP_of (show _ = some ((AV.ept [(strA x6.Name), (intA x6.Time)] 0), []) from (idx_lst (E := TTaxiStand.E) rfl h6))) ?_
    refine imp (opP_of (show _ = some ((AV.agg [(strA x6.Name), (intA x6.Time)]), []) from rfl)) ?_
    refine imp exA2_b ?_
    refine imp exStr_b ?_
    refine imp ex_i64_b ?_
    refine bind_b fun x7 h7 => ?_
    refine imp fnArgs_b ?_
    refine imp (cond_ff rfl) ?_
    refine imp (callW_says (sg22 h7)) ?_
    refine imp exB_b ?_
    refine cond_b (fun _ => ?_) (fun _ => ?_)
    · exact fun hg => ret1 (hR _ (Option.some.inj hg).symm) (fz_sc _ _)
    · exact fun hg => hN0 _ (Option.some.inj hg).symm _ (weak_mem [] rfl rfl rfl (okW_cons (ent_lst (E := TTaxiStand.E) _ false) (okW_cons (ent_clean (leV_refl _) (by simp [clean, cleans, encs_clean])) (okW_cons (.inl (leV_refl _)) (okW_cons (.inl (leV_refl _)) (okW_cons (.inl (leV_refl _)) okW_nil))))) okB_nil')
  · exact fun hg => ret1 (hR _ (Option.some.inj hg).symm) (fz_sc _ _)
theorem L21_0_ok (n : Nat) (a0 : List TTaxiStand) (a1_0_0 : ByteArray) (c4 : Int) (c7 : Int) {t : ρ21} (R : AV → Mem → Prop) (hR : ∀ r : ρ21, t = r → ∀ u m, Ans ((intA r)) u m → R u m) (k : Nat) (x : Int) (hx : iterO (fun y : Int => S21_0 n a0 a1_0_0 c4 c7 y) k x = some t) {s : St} (hw : Weak KK 19 0 s (h21_0 (lstA TTaxiStand.E a0) (AV.fn 22 [(AV.ept [(strA a1_0_0)] 0)]) c4 c7 x [])) : Tri Try.prog KK 19 0 (.loop c21_0) s (q21_0 R ) :=
  L21_0 R  (σ := Nat × (Int)) (fun z => iterO (fun y : Int => S21_0 n a0 a1_0_0 c4 c7 y) z.1 z.2 = some t) (fun z => (lstA TTaxiStand.E a0)) (fun z => (AV.fn 22 [(AV.ept [(strA a1_0_0)] 0)])) (fun z => c4) (fun z => c7) (fun z => z.2) (fun z => []) (fun z => z.1) (by
    rintro ⟨k, y⟩ h
    cases k with
    | zero => exact (iterO_zero h).elim
    | succ k =>
      obtain ⟨u, h1, h2, h3⟩ := iterO_elim h
      exact B21_0_ok n a0 a1_0_0 c4 c7 y R  _ (fun r e => hR r (h3 _ e).symm)  (fun y' e s' hw => ⟨(k, y'), h2 _ e, Nat.lt_succ_self k, hw⟩) h1) (k, x) hx hw
theorem g21_ok (n : Nat) (a0 : List TTaxiStand) (a1_0_0 : ByteArray) {t : ρ21} (R : AV → Mem → Prop) (hR : ∀ r : ρ21, t = r → ∀ u m, Ans ((intA r)) u m → R u m) : g21 n a0 a1_0_0 = some t → F21 (lstA TTaxiStand.E a0) (AV.fn 22 [(AV.ept [(strA a1_0_0)] 0)]) R := by
  unfold g21 F21
  refine imp (opP_of (show _ = some ((intA (a0.length : Int)), []) from rfl)) ?_
  refine imp ex_i64_b ?_
  exact fun hg => L21_0_ok n a0 a1_0_0 (0) (a0.length : Int) R  hR n _ hg (weak_mem [] rfl rfl rfl (okW_cons (ent_lst (E := TTaxiStand.E) _ false) (okW_cons (ent_clean (leV_refl _) (by simp [clean, cleans, encs_clean])) (okW_cons (.inl (leV_refl _)) (okW_cons (.inl (leV_refl _)) (okW_cons (.inl (leV_refl _)) okW_nil))))) okB_nil')
theorem sg21 {n : Nat} {a0 : List TTaxiStand} {a1_0_0 : ByteArray} {t : ρ21} (h : g21 n a0 a1_0_0 = some t) : Says Try.prog KK.gl 21 [(lstA TTaxiStand.E a0), (AV.fn 22 [(AV.ept [(strA a1_0_0)] 0)])] ((intA t)) :=
  says_of_own (by first | rfl | simp [cleans, clean, encs_clean, En.cln]) (by first | rfl | simp [cleans, clean, encs_clean, En.cln]) (F21_own (lstA TTaxiStand.E a0) (AV.fn 22 [(AV.ept [(strA a1_0_0)] 0)]) _ (g21_ok n a0 a1_0_0 (Ans ((intA t))) (fun r e u m h => by rw [e]; exact h) h))
/- skyway/taxi.stand -/
theorem g13_ok (n : Nat) (a0 : List TTaxiStand) (a1 : ByteArray) {t : ρ13} (R : AV → Mem → Prop) (hR : ∀ r : ρ13, t = r → ∀ u m, Ans ((intA r)) u m → R u m) : g13 n a0 a1 = some t → F13 (lstA TTaxiStand.E a0) a1 R := by
  unfold g13 F13
  refine bind_b fun x8 h8 => ?_
  refine imp (callQ_pure (pure_snapN (snL_cons (sn_lst (E := TTaxiStand.E) _ _ false) (snL_cons (sn_fn _ _ (snL_cons (sn_ptr _ (ty := 9) (us := [(strA a1)]) (by first | rfl | (simp (disch := decide) only [mpushs_nil, mpushs_cons, mget_hd, mget_tl, mget_appW_o, mget_appW_n])) (snL_cons (sn_sc _ _) snL_nil)) snL_nil)) snL_nil)) (sg21 h8) rfl)) ?_
  refine imp ex_i64_b ?_
  exact fun hg => ret1 (hR _ (Option.some.inj hg).symm) (fz_sc _ _)
theorem sg13 {n : Nat} {a0 : List TTaxiStand} {a1 : ByteArray} {t : ρ13} (h : g13 n a0 a1 = some t) : Says Try.prog KK.gl 13 [(lstA TTaxiStand.E a0), (strA a1)] ((intA t)) :=
  says_of_own (by first | rfl | simp [cleans, clean, encs_clean, En.cln]) (by first | rfl | simp [cleans, clean, encs_clean, En.cln]) (F13_own (lstA TTaxiStand.E a0) a1 _ (g13_ok n a0 a1 (Ans ((intA t))) (fun r e u m h => by rw [e]; exact h) h))
/- skyway/taxi.Stands -/
theorem B11_0_ok (n : Nat) (a0 : List TTaxiStand) (c2 : Int) (c9 : Int) (v10 : Int) {t : (Int) ⊕ ρ11} (R : AV → Mem → Prop) (N0 : St → Prop) (hR : ∀ r : ρ11, t = (.inr r) → ∀ u m, Ans ((intA r)) u m → R u m) (hN0 : ∀ y : Int, t = (.inl y) → ∀ s' : St, Weak KK 38 0 s' (h11_0 (lstA TTaxiStand.E a0) c2 (lstA TTaxiStand.E a0) c9 y []) → N0 s') : S11_0 n a0 c2 c9 v10 = some t → B11_0 (lstA TTaxiStand.E a0) c2 (lstA TTaxiStand.E a0) c9 v10 [] R N0 := by
  unfold S11_0 B11_0
  refine cond_b (fun _ => ?_) (fun _ => ?_)
  · refine bind_b fun x1 h1 => ?_
    refine imp (opP_of (show _ = some ((AV.ept [(strA x1.Name), (intA x1.Time)] 0), []) from (idx_lst (E := TTaxiStand.E) rfl h1))) ?_
    refine imp (opP_of (show _ = some ((AV.agg [(strA x1.Name), (intA x1.Time)]), []) from rfl)) ?_
    refine imp exA2_b ?_
    refine imp exStr_b ?_
    refine imp ex_i64_b ?_
    refine bind_b fun x4 h4 => ?_
    refine imp (callQ_says (sg18 h4)) ?_
    refine imp exB_b ?_
    refine cond_b (fun _ => ?_) (fun _ => ?_)
    · exact fun hg => ret1 (hR _ (Option.some.inj hg).symm) (fz_sc _ _)
    · refine cond_b (fun _ => ?_) (fun _ => ?_)
      · exact fun hg => ret1 (hR _ (Option.some.inj hg).symm) (fz_sc _ _)
      · refine cond_b (fun _ => ?_) (fun _ => ?_)
        · exact fun hg => ret1 (hR _ (Option.some.inj hg).symm) (fz_sc _ _)
        · refine bind_b fun x5 h5 => ?_
          refine imp (opP_of (show _ = some ((lstA TTaxiStand.E x5), []) from (slc_hi (E := TTaxiStand.E) (e := 38) (by kernel_rfl) (by kernel_rfl) rfl h5))) ?_
          refine bind_b fun x9 h9 => ?_
          refine imp (callQ_says (sg13 h9)) ?_
          refine imp ex_i64_b ?_
          refine cond_b (fun _ => ?_) (fun _ => ?_)
          · exact fun hg => ret1 (hR _ (Option.some.inj hg).symm) (fz_sc _ _)
          · exact fun hg => hN0 _ (Option.some.inj hg).symm _ (weak_mem [] rfl rfl rfl (okW_cons (ent_lst (E := TTaxiStand.E) _ false) (okW_cons (.inl (leV_refl _)) (okW_cons (ent_lst (E := TTaxiStand.E) _ false) (okW_cons (.inl (leV_refl _)) (okW_cons (.inl (leV_refl _)) okW_nil))))) okB_nil')
  · exact fun hg => ret1 (hR _ (Option.some.inj hg).symm) (fz_sc _ _)
theorem L11_0_ok (n : Nat) (a0 : List TTaxiStand) (c2 : Int) (c9 : Int) {t : ρ11} (R : AV → Mem → Prop) (hR : ∀ r : ρ11, t = r → ∀ u m, Ans ((intA r)) u m → R u m) (k : Nat) (x : Int) (hx : iterO (fun y : Int => S11_0 n a0 c2 c9 y) k x = some t) {s : St} (hw : Weak KK 38 0 s (h11_0 (lstA TTaxiStand.E a0) c2 (lstA TTaxiStand.E a0) c9 x [])) : Tri Try.prog KK 38 0 (.loop c11_0) s (q11_0 R ) :=
  L11_0 R  (σ := Nat × (Int)) (fun z => iterO (fun y : Int => S11_0 n a0 c2 c9 y) z.1 z.2 = some t) (fun z => (lstA TTaxiStand.E a0)) (fun z => c2) (fun z => (lstA TTaxiStand.E a0)) (fun z => c9) (fun z => z.2) (fun z => []) (fun z => z.1) (by
    rintro ⟨k, y⟩ h
    cases k with
    | zero => exact (iterO_zero h).elim
    | succ k =>
      obtain ⟨u, h1, h2, h3⟩ := iterO_elim h
      exact B11_0_ok n a0 c2 c9 y R  _ (fun r e => hR r (h3 _ e).symm)  (fun y' e s' hw => ⟨(k, y'), h2 _ e, Nat.lt_succ_self k, hw⟩) h1) (k, x) hx hw
theorem g11_ok (n : Nat) (a0 : List TTaxiStand) {t : ρ11} (R : AV → Mem → Prop) (hR : ∀ r : ρ11, t = r → ∀ u m, Ans ((intA r)) u m → R u m) : g11 n a0 = some t → F11 (lstA TTaxiStand.E a0) R := by
  unfold g11 F11
  refine imp (opP_of (show _ = some ((intA (a0.length : Int)), []) from rfl)) ?_
  refine imp ex_i64_b ?_
  refine cond_b (fun _ => ?_) (fun _ => ?_)
  · exact fun hg => ret1 (hR _ (Option.some.inj hg).symm) (fz_sc _ _)
  · refine imp (opP_of (show _ = some ((intA (a0.length : Int)), []) from rfl)) ?_
    refine imp ex_i64_b ?_
    exact fun hg => L11_0_ok n a0 (0) (a0.length : Int) R  hR n _ hg (weak_mem [] rfl rfl rfl (okW_cons (ent_lst (E := TTaxiStand.E) _ false) (okW_cons (.inl (leV_refl _)) (okW_cons (ent_lst (E := TTaxiStand.E) _ false) (okW_cons (.inl (leV_refl _)) (okW_cons (.inl (leV_refl _)) okW_nil))))) okB_nil')
theorem sg11 {n : Nat} {a0 : List TTaxiStand} {t : ρ11} (h : g11 n a0 = some t) : Says Try.prog KK.gl 11 [(lstA TTaxiStand.E a0)] ((intA t)) :=
  says_of_own (by first | rfl | simp [cleans, clean, encs_clean, En.cln]) (by first | rfl | simp [cleans, clean, encs_clean, En.cln]) (F11_own (lstA TTaxiStand.E a0) _ (g11_ok n a0 (Ans ((intA t))) (fun r e u m h => by rw [e]; exact h) h))
/- skyway/taxi.Check$1 -/
theorem g20_ok (n : Nat) (a0 : TTaxiAsk) (a1_0 : ByteArray) (a1_1 : ByteArray) (a1_2 : Int) {t : ρ20} (R : AV → Mem → Prop) (hR : ∀ r : ρ20, t = r → ∀ u m, Ans ((boolA r)) u m → R u m) : g20 n a0 a1_0 a1_1 a1_2 = some t → F20 a0.Call a0.Stand a0.Ready (AV.ept [(strA a1_0), (strA a1_1), (intA a1_2)] 0) R := by
  unfold g20 F20
  refine imp (opP_of (show _ = some ((AV.ept [(strA a1_0), (strA a1_1), (intA a1_2)] 0), []) from rfl)) ?_
  refine imp (opP_of (show _ = some ((strA a1_0), []) from rfl)) ?_
  refine imp exStr_b ?_
  exact fun hg => ret1 (hR _ (Option.some.inj hg).symm) (fz_sc _ _)
theorem sg20 {n : Nat} {a0 : TTaxiAsk} {a1_0 : ByteArray} {a1_1 : ByteArray} {a1_2 : Int} {t : ρ20} (h : g20 n a0 a1_0 a1_1 a1_2 = some t) : Says Try.prog KK.gl 20 [(AV.agg [(strA a0.Call), (strA a0.Stand), (intA a0.Ready)]), (AV.ept [(strA a1_0), (strA a1_1), (intA a1_2)] 0)] ((boolA t)) :=
  says_of_own (by first | rfl | simp [cleans, clean, encs_clean, En.cln]) (by first | rfl | simp [cleans, clean, encs_clean, En.cln]) (F20_own a0.Call a0.Stand a0.Ready (AV.ept [(strA a1_0), (strA a1_1), (intA a1_2)] 0) _ (g20_ok n a0 a1_0 a1_1 a1_2 (Ans ((boolA t))) (fun r e u m h => by rw [e]; exact h) h))
/- slices.IndexFunc[[]skyway/api.TaxiAsk,skyway/api.TaxiAsk] -/
theorem B26_0_ok (n : Nat) (a0 : List TTaxiAsk) (a1_0_0 : ByteArray) (a1_0_1 : ByteArray) (a1_0_2 : Int) (c4 : Int) (c7 : Int) (v8 : Int) {t : (Int) ⊕ ρ26} (R : AV → Mem → Prop) (N0 : St → Prop) (hR : ∀ r : ρ26, t = (.inr r) → ∀ u m, Ans ((intA r)) u m → R u m) (hN0 : ∀ y : Int, t = (.inl y) → ∀ s' : St, Weak KK 19 0 s' (h26_0 (lstA TTaxiAsk.E a0) (AV.fn 20 [(AV.ept [(strA a1_0_0), (strA a1_0_1), (intA a1_0_2)] 0)]) c4 c7 y []) → N0 s') : S26_0 n a0 a1_0_0 a1_0_1 a1_0_2 c4 c7 v8 = some t → B26_0 (lstA TTaxiAsk.E a0) (AV.fn 20 [(AV.ept [(strA a1_0_0), (strA a1_0_1), (intA a1_0_2)] 0)]) c4 c7 v8 [] R N0 := by
  unfold S26_0 B26_0
  refine cond_b (fun _ => ?_) (fun _ => ?_)
  · refine bind_b fun x15 h15 => ?_
    refine imp (opP_of (show _ = some ((AV.ept [(strA x15.Call), (strA x15.Stand), (intA x15.Ready)] 0), []) from (idx_lst (E := TTaxiAsk.E) rfl h15))) ?_
    refine imp (opP_of (show _ = some ((AV.agg [(strA x15.Call), (strA x15.Stand), (intA x15.Ready)]), []) from rfl)) ?_
    refine imp exA3_b ?_
    refine imp exStr_b ?_
    refine imp exStr_b ?_
    refine imp ex_i64_b ?_
    refine bind_b fun x16 h16 => ?_
    refine imp fnArgs_b ?_
    refine imp (cond_ff rfl) ?_
    refine imp (callW_says (sg20 h16)) ?_
    refine imp exB_b ?_
    refine cond_b (fun _ => ?_) (fun _ => ?_)
    · exact fun hg => ret1 (hR _ (Option.some.inj hg).symm) (fz_sc _ _)
    · exact fun hg => hN0 _ (Option.some.inj hg).symm _ (weak_mem [] rfl rfl rfl (okW_cons (ent_lst (E := TTaxiAsk.E) _ false) (okW_cons (ent_clean (leV_refl _) (by simp [clean, cleans, encs_clean])) (okW_cons (.inl (leV_refl _)) (okW_cons (.inl (leV_refl _)) (okW_cons (.inl (leV_refl _)) okW_nil))))) okB_nil')
  · exact fun hg => ret1 (hR _ (Option.some.inj hg).symm) (fz_sc _ _)
theorem L26_0_ok (n : Nat) (a0 : List TTaxiAsk) (a1_0_0 : ByteArray) (a1_0_1 : ByteArray) (a1_0_2 : Int) (c4 : Int) (c7 : Int) {t : ρ26} (R : AV → Mem → Prop) (hR : ∀ r : ρ26, t = r → ∀ u m, Ans ((intA r)) u m → R u m) (k : Nat) (x : Int) (hx : iterO (fun y : Int => S26_0 n a0 a1_0_0 a1_0_1 a1_0_2 c4 c7 y) k x = some t) {s : St} (hw : Weak KK 19 0 s (h26_0 (lstA TTaxiAsk.E a0) (AV.fn 20 [(AV.ept [(strA a1_0_0), (strA a1_0_1), (intA a1_0_2)] 0)]) c4 c7 x [])) : Tri Try.prog KK 19 0 (.loop c26_0) s (q26_0 R ) :=
  L26_0 R  (σ := Nat × (Int)) (fun z => iterO (fun y : Int => S26_0 n a0 a1_0_0 a1_0_1 a1_0_2 c4 c7 y) z.1 z.2 = some t) (fun z => (lstA TTaxiAsk.E a0)) (fun z => (AV.fn 20 [(AV.ept [(strA a1_0_0), (strA a1_0_1), (intA a1_0_2)] 0)])) (fun z => c4) (fun z => c7) (fun z => z.2) (fun z => []) (fun z => z.1) (by
    rintro ⟨k, y⟩ h
    cases k with
    | zero => exact (iterO_zero h).elim
    | succ k =>
      obtain ⟨u, h1, h2, h3⟩ := iterO_elim h
      exact B26_0_ok n a0 a1_0_0 a1_0_1 a1_0_2 c4 c7 y R  _ (fun r e => hR r (h3 _ e).symm)  (fun y' e s' hw => ⟨(k, y'), h2 _ e, Nat.lt_succ_self k, hw⟩) h1) (k, x) hx hw
theorem g26_ok (n : Nat) (a0 : List TTaxiAsk) (a1_0_0 : ByteArray) (a1_0_1 : ByteArray) (a1_0_2 : Int) {t : ρ26} (R : AV → Mem → Prop) (hR : ∀ r : ρ26, t = r → ∀ u m, Ans ((intA r)) u m → R u m) : g26 n a0 a1_0_0 a1_0_1 a1_0_2 = some t → F26 (lstA TTaxiAsk.E a0) (AV.fn 20 [(AV.ept [(strA a1_0_0), (strA a1_0_1), (intA a1_0_2)] 0)]) R := by
  unfold g26 F26
  refine imp (opP_of (show _ = some ((intA (a0.length : Int)), []) from rfl)) ?_
  refine imp ex_i64_b ?_
  exact fun hg => L26_0_ok n a0 a1_0_0 a1_0_1 a1_0_2 (0) (a0.length : Int) R  hR n _ hg (weak_mem [] rfl rfl rfl (okW_cons (ent_lst (E := TTaxiAsk.E) _ false) (okW_cons (ent_clean (leV_refl _) (by simp [clean, cleans, encs_clean])) (okW_cons (.inl (leV_refl _)) (okW_cons (.inl (leV_refl _)) (okW_cons (.inl (leV_refl _)) okW_nil))))) okB_nil')
theorem sg26 {n : Nat} {a0 : List TTaxiAsk} {a1_0_0 : ByteArray} {a1_0_1 : ByteArray} {a1_0_2 : Int} {t : ρ26} (h : g26 n a0 a1_0_0 a1_0_1 a1_0_2 = some t) : Says Try.prog KK.gl 26 [(lstA TTaxiAsk.E a0), (AV.fn 20 [(AV.ept [(strA a1_0_0), (strA a1_0_1), (intA a1_0_2)] 0)])] ((intA t)) :=
  says_of_own (by first | rfl | simp [cleans, clean, encs_clean, En.cln]) (by first | rfl | simp [cleans, clean, encs_clean, En.cln]) (F26_own (lstA TTaxiAsk.E a0) (AV.fn 20 [(AV.ept [(strA a1_0_0), (strA a1_0_1), (intA a1_0_2)] 0)]) _ (g26_ok n a0 a1_0_0 a1_0_1 a1_0_2 (Ans ((intA t))) (fun r e u m h => by rw [e]; exact h) h))
/- slices.ContainsFunc[[]skyway/api.TaxiAsk,skyway/api.TaxiAsk] -/
theorem g19_ok (n : Nat) (a0 : List TTaxiAsk) (a1_0_0 : ByteArray) (a1_0_1 : ByteArray) (a1_0_2 : Int) {t : ρ19} (R : AV → Mem → Prop) (hR : ∀ r : ρ19, t = r → ∀ u m, Ans ((boolA r)) u m → R u m) : g19 n a0 a1_0_0 a1_0_1 a1_0_2 = some t → F19 (lstA TTaxiAsk.E a0) (AV.fn 20 [(AV.ept [(strA a1_0_0), (strA a1_0_1), (intA a1_0_2)] 0)]) R := by
  unfold g19 F19
  refine bind_b fun x17 h17 => ?_
  refine imp (callQ_says (sg26 h17)) ?_
  refine imp ex_i64_b ?_
  exact fun hg => ret1 (hR _ (Option.some.inj hg).symm) (fz_sc _ _)
theorem sg19 {n : Nat} {a0 : List TTaxiAsk} {a1_0_0 : ByteArray} {a1_0_1 : ByteArray} {a1_0_2 : Int} {t : ρ19} (h : g19 n a0 a1_0_0 a1_0_1 a1_0_2 = some t) : Says Try.prog KK.gl 19 [(lstA TTaxiAsk.E a0), (AV.fn 20 [(AV.ept [(strA a1_0_0), (strA a1_0_1), (intA a1_0_2)] 0)])] ((boolA t)) :=
  says_of_own (by first | rfl | simp [cleans, clean, encs_clean, En.cln]) (by first | rfl | simp [cleans, clean, encs_clean, En.cln]) (F19_own (lstA TTaxiAsk.E a0) (AV.fn 20 [(AV.ept [(strA a1_0_0), (strA a1_0_1), (intA a1_0_2)] 0)]) _ (g19_ok n a0 a1_0_0 a1_0_1 a1_0_2 (Ans ((boolA t))) (fun r e u m h => by rw [e]; exact h) h))
/- skyway/taxi.Check -/
theorem B12_0_ok (n : Nat) (a0 : List TTaxiStand) (a1 : List TTaxiAsk) (c4 : Int) (c17 : Int) (v18 : Int) {t : (Int) ⊕ ρ12} (R : AV → Mem → Prop) (N0 : St → Prop) (hR : ∀ r : ρ12, t = (.inr r) → ∀ u m, Ans ((intA r)) u m → R u m) (hN0 : ∀ y : Int, t = (.inl y) → ∀ s' : St, Weak KK 50 0 s' (h12_0 (lstA TTaxiStand.E a0) (lstA TTaxiAsk.E a1) c4 (lstA TTaxiAsk.E a1) c17 y []) → N0 s') : S12_0 n a0 a1 c4 c17 v18 = some t → B12_0 (lstA TTaxiStand.E a0) (lstA TTaxiAsk.E a1) c4 (lstA TTaxiAsk.E a1) c17 v18 [] R N0 := by
  unfold S12_0 B12_0
  refine cond_b (fun _ => ?_) (fun _ => ?_)
  · refine bind_b fun x11 h11 => ?_
    refine imp (opP_of (show _ = some ((AV.ept [(strA x11.Call), (strA x11.Stand), (intA x11.Ready)] 0), []) from (idx_lst (E := TTaxiAsk.E) rfl h11))) ?_
    refine imp (opP_of (show _ = some ((AV.agg [(strA x11.Call), (strA x11.Stand), (intA x11.Ready)]), []) from rfl)) ?_
    refine imp exA3_b ?_
    refine imp exStr_b ?_
    refine imp exStr_b ?_
    refine imp ex_i64_b ?_
    refine bind_b fun x12 h12 => ?_
    refine imp (callQ_says (sg18 h12)) ?_
    refine imp exB_b ?_
    refine cond_b (fun _ => ?_) (fun _ => ?_)
    · exact fun hg => ret1 (hR _ (Option.some.inj hg).symm) (fz_sc _ _)
    · refine bind_b fun x13 h13 => ?_
      refine imp (callQ_says (sg13 h13)) ?_
      refine imp ex_i64_b ?_
      refine cond_b (fun _ => ?_) (fun _ => ?_)
      · exact fun hg => ret1 (hR _ (Option.some.inj hg).symm) (fz_sc _ _)
      · refine cond_b (fun _ => ?_) (fun _ => ?_)
        · exact fun hg => ret1 (hR _ (Option.some.inj hg).symm) (fz_sc _ _)
        · refine cond_b (fun _ => ?_) (fun _ => ?_)
          · exact fun hg => ret1 (hR _ (Option.some.inj hg).symm) (fz_sc _ _)
          · refine bind_b fun x14 h14 => ?_
            refine imp (opP_of (show _ = some ((lstA TTaxiAsk.E x14), []) from (slc_hi (E := TTaxiAsk.E) (e := 40) (by kernel_rfl) (by kernel_rfl) rfl h14))) ?_
            refine bind_b fun x18 h18 => ?_
            refine imp (callQ_pure (pure_snapN (snL_cons (sn_lst (E := TTaxiAsk.E) _ _ false) (snL_cons (sn_fn _ _ (snL_cons (sn_ptr _ (ty := 40) (us := [(strA x11.Call), (strA x11.Stand), (intA x11.Ready)]) (by first | rfl | (simp (disch := decide) only [mpushs_nil, mpushs_cons, mget_hd, mget_tl, mget_appW_o, mget_appW_n])) (snL_cons (sn_sc _ _) (snL_cons (sn_sc _ _) (snL_cons (sn_sc _ _) snL_nil)))) snL_nil)) snL_nil)) (sg19 h18) rfl)) ?_
            refine imp exB_b ?_
            refine cond_b (fun _ => ?_) (fun _ => ?_)
            · exact fun hg => ret1 (hR _ (Option.some.inj hg).symm) (fz_sc _ _)
            · exact fun hg => hN0 _ (Option.some.inj hg).symm _ (weak_mem [] rfl rfl rfl (okW_cons (ent_lst (E := TTaxiStand.E) _ false) (okW_cons (ent_lst (E := TTaxiAsk.E) _ false) (okW_cons (.inl (leV_refl _)) (okW_cons (ent_lst (E := TTaxiAsk.E) _ false) (okW_cons (.inl (leV_refl _)) (okW_cons (.inl (leV_refl _)) okW_nil)))))) okB_nil')
  · exact fun hg => ret1 (hR _ (Option.some.inj hg).symm) (fz_sc _ _)
theorem L12_0_ok (n : Nat) (a0 : List TTaxiStand) (a1 : List TTaxiAsk) (c4 : Int) (c17 : Int) {t : ρ12} (R : AV → Mem → Prop) (hR : ∀ r : ρ12, t = r → ∀ u m, Ans ((intA r)) u m → R u m) (k : Nat) (x : Int) (hx : iterO (fun y : Int => S12_0 n a0 a1 c4 c17 y) k x = some t) {s : St} (hw : Weak KK 50 0 s (h12_0 (lstA TTaxiStand.E a0) (lstA TTaxiAsk.E a1) c4 (lstA TTaxiAsk.E a1) c17 x [])) : Tri Try.prog KK 50 0 (.loop c12_0) s (q12_0 R ) :=
  L12_0 R  (σ := Nat × (Int)) (fun z => iterO (fun y : Int => S12_0 n a0 a1 c4 c17 y) z.1 z.2 = some t) (fun z => (lstA TTaxiStand.E a0)) (fun z => (lstA TTaxiAsk.E a1)) (fun z => c4) (fun z => (lstA TTaxiAsk.E a1)) (fun z => c17) (fun z => z.2) (fun z => []) (fun z => z.1) (by
    rintro ⟨k, y⟩ h
    cases k with
    | zero => exact (iterO_zero h).elim
    | succ k =>
      obtain ⟨u, h1, h2, h3⟩ := iterO_elim h
      exact B12_0_ok n a0 a1 c4 c17 y R  _ (fun r e => hR r (h3 _ e).symm)  (fun y' e s' hw => ⟨(k, y'), h2 _ e, Nat.lt_succ_self k, hw⟩) h1) (k, x) hx hw
theorem g12_ok (n : Nat) (a0 : List TTaxiStand) (a1 : List TTaxiAsk) {t : ρ12} (R : AV → Mem → Prop) (hR : ∀ r : ρ12, t = r → ∀ u m, Ans ((intA r)) u m → R u m) : g12 n a0 a1 = some t → F12 (lstA TTaxiStand.E a0) (lstA TTaxiAsk.E a1) R := by
  unfold g12 F12
  refine bind_b fun x10 h10 => ?_
  refine imp (callQ_says (sg11 h10)) ?_
  refine imp ex_i64_b ?_
  refine cond_b (fun _ => ?_) (fun _ => ?_)
  · exact fun hg => ret1 (hR _ (Option.some.inj hg).symm) (fz_sc _ _)
  · refine imp (opP_of (show _ = some ((intA (a1.length : Int)), []) from rfl)) ?_
    refine imp ex_i64_b ?_
    refine cond_b (fun _ => ?_) (fun _ => ?_)
    · exact fun hg => ret1 (hR _ (Option.some.inj hg).symm) (fz_sc _ _)
    · refine imp (opP_of (show _ = some ((intA (a1.length : Int)), []) from rfl)) ?_
      refine imp ex_i64_b ?_
      exact fun hg => L12_0_ok n a0 a1 (0) (a1.length : Int) R  hR n _ hg (weak_mem [] rfl rfl rfl (okW_cons (ent_lst (E := TTaxiStand.E) _ false) (okW_cons (ent_lst (E := TTaxiAsk.E) _ false) (okW_cons (.inl (leV_refl _)) (okW_cons (ent_lst (E := TTaxiAsk.E) _ false) (okW_cons (.inl (leV_refl _)) (okW_cons (.inl (leV_refl _)) okW_nil)))))) okB_nil')
theorem sg12 {n : Nat} {a0 : List TTaxiStand} {a1 : List TTaxiAsk} {t : ρ12} (h : g12 n a0 a1 = some t) : Says Try.prog KK.gl 12 [(lstA TTaxiStand.E a0), (lstA TTaxiAsk.E a1)] ((intA t)) :=
  says_of_own (by first | rfl | simp [cleans, clean, encs_clean, En.cln]) (by first | rfl | simp [cleans, clean, encs_clean, En.cln]) (F12_own (lstA TTaxiStand.E a0) (lstA TTaxiAsk.E a1) _ (g12_ok n a0 a1 (Ans ((intA t))) (fun r e u m h => by rw [e]; exact h) h))
/- cmp.isNaN[string] -/
theorem g25_ok (n : Nat) (a0 : ByteArray) {t : ρ25} (R : AV → Mem → Prop) (hR : ∀ r : ρ25, t = r → ∀ u m, Ans ((boolA r)) u m → R u m) : g25 n a0 = some t → F25 a0 R := by
  unfold g25 F25
  exact fun hg => ret1 (hR _ (Option.some.inj hg).symm) (fz_sc _ _)
theorem sg25 {n : Nat} {a0 : ByteArray} {t : ρ25} (h : g25 n a0 = some t) : Says Try.prog KK.gl 25 [(strA a0)] ((boolA t)) :=
  says_of_own (by first | rfl | simp [cleans, clean, encs_clean, En.cln]) (by first | rfl | simp [cleans, clean, encs_clean, En.cln]) (F25_own a0 _ (g25_ok n a0 (Ans ((boolA t))) (fun r e u m h => by rw [e]; exact h) h))
/- cmp.Compare[string] -/
theorem g17_ok (n : Nat) (a0 : ByteArray) (a1 : ByteArray) {t : ρ17} (R : AV → Mem → Prop) (hR : ∀ r : ρ17, t = r → ∀ u m, Ans ((intA r)) u m → R u m) : g17 n a0 a1 = some t → F17 a0 a1 R := by
  unfold g17 F17
  refine bind_b fun x24 h24 => ?_
  refine imp (callQ_says (sg25 h24)) ?_
  refine imp exB_b ?_
  refine bind_b fun x25 h25 => ?_
  refine imp (callQ_says (sg25 h25)) ?_
  refine imp exB_b ?_
  refine cond_b (fun _ => ?_) (fun _ => ?_)
  · refine cond_b (fun _ => ?_) (fun _ => ?_)
    · exact fun hg => ret1 (hR _ (Option.some.inj hg).symm) (fz_sc _ _)
    · exact fun hg => ret1 (hR _ (Option.some.inj hg).symm) (fz_sc _ _)
  · refine cond_b (fun _ => ?_) (fun _ => ?_)
    · exact fun hg => ret1 (hR _ (Option.some.inj hg).symm) (fz_sc _ _)
    · refine cond_b (fun _ => ?_) (fun _ => ?_)
      · exact fun hg => ret1 (hR _ (Option.some.inj hg).symm) (fz_sc _ _)
      · refine cond_b (fun _ => ?_) (fun _ => ?_)
        · exact fun hg => ret1 (hR _ (Option.some.inj hg).symm) (fz_sc _ _)
        · exact fun hg => ret1 (hR _ (Option.some.inj hg).symm) (fz_sc _ _)
theorem sg17 {n : Nat} {a0 : ByteArray} {a1 : ByteArray} {t : ρ17} (h : g17 n a0 a1 = some t) : Says Try.prog KK.gl 17 [(strA a0), (strA a1)] ((intA t)) :=
  says_of_own (by first | rfl | simp [cleans, clean, encs_clean, En.cln]) (by first | rfl | simp [cleans, clean, encs_clean, En.cln]) (F17_own a0 a1 _ (g17_ok n a0 a1 (Ans ((intA t))) (fun r e u m h => by rw [e]; exact h) h))
/- cmp.Or[int] -/
theorem B16_0_ok (n : Nat) (c2 : Int) (a0 : List Int) (c7 : Int) (v8 : Int) {t : (Int) ⊕ ρ16} (R : AV → Mem → Prop) (N0 : St → Prop) (hR : ∀ r : ρ16, t = (.inr r) → ∀ u m, Ans ((intA r)) u m → R u m) (hN0 : ∀ y : Int, t = (.inl y) → ∀ s' : St, Weak KK 18 0 s' (h16_0 c2 c2 (lstA intE a0) c7 y []) → N0 s') : S16_0 n c2 a0 c7 v8 = some t → B16_0 c2 c2 (lstA intE a0) c7 v8 [] R N0 := by
  unfold S16_0 B16_0
  refine cond_b (fun _ => ?_) (fun _ => ?_)
  · refine bind_b fun x27 h27 => ?_
    refine imp (opP_of (show _ = some ((AV.ept [(intA x27)] 0), []) from (idx_lst (E := intE) rfl h27))) ?_
    refine imp (opP_of (show _ = some ((intA x27), []) from rfl)) ?_
    refine imp ex_i64_b ?_
    refine cond_b (fun _ => ?_) (fun _ => ?_)
    · exact fun hg => ret1 (hR _ (Option.some.inj hg).symm) (fz_sc _ _)
    · exact fun hg => hN0 _ (Option.some.inj hg).symm _ (weak_mem [] rfl rfl rfl (okW_cons (.inl (leV_refl _)) (okW_cons (.inl (leV_refl _)) (okW_cons (ent_lst (E := intE) _ false) (okW_cons (.inl (leV_refl _)) (okW_cons (.inl (leV_refl _)) okW_nil))))) okB_nil')
  · exact fun hg => ret1 (hR _ (Option.some.inj hg).symm) (fz_sc _ _)
theorem L16_0_ok (n : Nat) (c2 : Int) (a0 : List Int) (c7 : Int) {t : ρ16} (R : AV → Mem → Prop) (hR : ∀ r : ρ16, t = r → ∀ u m, Ans ((intA r)) u m → R u m) (k : Nat) (x : Int) (hx : iterO (fun y : Int => S16_0 n c2 a0 c7 y) k x = some t) {s : St} (hw : Weak KK 18 0 s (h16_0 c2 c2 (lstA intE a0) c7 x [])) : Tri Try.prog KK 18 0 (.loop c16_0) s (q16_0 R ) :=
  L16_0 R  (σ := Nat × (Int)) (fun z => iterO (fun y : Int => S16_0 n c2 a0 c7 y) z.1 z.2 = some t) (fun z => c2) (fun z => c2) (fun z => (lstA intE a0)) (fun z => c7) (fun z => z.2) (fun z => []) (fun z => z.1) (by
    rintro ⟨k, y⟩ h
    cases k with
    | zero => exact (iterO_zero h).elim
    | succ k =>
      obtain ⟨u, h1, h2, h3⟩ := iterO_elim h
      exact B16_0_ok n c2 a0 c7 y R  _ (fun r e => hR r (h3 _ e).symm)  (fun y' e s' hw => ⟨(k, y'), h2 _ e, Nat.lt_succ_self k, hw⟩) h1) (k, x) hx hw
theorem g16_ok (n : Nat) (a0 : List Int) {t : ρ16} (R : AV → Mem → Prop) (hR : ∀ r : ρ16, t = r → ∀ u m, Ans ((intA r)) u m → R u m) : g16 n a0 = some t → F16 (lstA intE a0) R := by
  unfold g16 F16
  refine imp (opP_of (show _ = some ((intA (a0.length : Int)), []) from rfl)) ?_
  refine imp ex_i64_b ?_
  exact fun hg => L16_0_ok n (0) a0 (a0.length : Int) R  hR n _ hg (weak_mem [] rfl rfl rfl (okW_cons (.inl (leV_refl _)) (okW_cons (.inl (leV_refl _)) (okW_cons (ent_lst (E := intE) _ false) (okW_cons (.inl (leV_refl _)) (okW_cons (.inl (leV_refl _)) okW_nil))))) okB_nil')
theorem sg16 {n : Nat} {a0 : List Int} {t : ρ16} (h : g16 n a0 = some t) : Says Try.prog KK.gl 16 [(lstA intE a0)] ((intA t)) :=
  says_of_own (by first | rfl | simp [cleans, clean, encs_clean, En.cln]) (by first | rfl | simp [cleans, clean, encs_clean, En.cln]) (F16_own (lstA intE a0) _ (g16_ok n a0 (Ans ((intA t))) (fun r e u m h => by rw [e]; exact h) h))
/- skyway/taxi.Queue$1 -/
theorem g15_ok (n : Nat) (a0 : TTaxiMove) (a1 : TTaxiMove) {t : ρ15} (R : AV → Mem → Prop) (hR : ∀ r : ρ15, t = r → ∀ u m, Ans ((intA r)) u m → R u m) : g15 n a0 a1 = some t → F15 a0.Call a0.Push a0.Hold a0.Leave a1.Call a1.Push a1.Hold a1.Leave R := by
  unfold g15 F15
  refine imp (opM_of (show _ = some ((intA a0.Hold), []) from (ldS_ptr (b := ⟨[(strA a0.Call), (intA a0.Push), (intA a0.Hold), (intA a0.Leave)], 31⟩) (by first | rfl | (rw [look'_mem (by first | rfl | simp [topId_blk] | simp [topId])]; first | rfl | (simp (disch := decide) only [mpushs_nil, mpushs_cons, mget_hd, mget_tl, mget_appW_o, mget_appW_n]))) rfl))) ?_
  refine imp ex_i64_b ?_
  refine imp (opM_of (show _ = some ((intA a1.Hold), []) from (ldS_ptr (b := ⟨[(strA a1.Call), (intA a1.Push), (intA a1.Hold), (intA a1.Leave)], 31⟩) (by first | rfl | (rw [look'_mem (by first | rfl | simp [topId_blk] | simp [topId])]; first | rfl | (simp (disch := decide) only [mpushs_nil, mpushs_cons, mget_hd, mget_tl, mget_appW_o, mget_appW_n]))) rfl))) ?_
  refine imp ex_i64_b ?_
  refine imp (opM_of (show _ = some ((strA a0.Call), []) from (ldS_ptr (b := ⟨[(strA a0.Call), (intA a0.Push), (intA a0.Hold), (intA a0.Leave)], 31⟩) (by first | rfl | (rw [look'_mem (by first | rfl | simp [topId_blk] | simp [topId])]; first | rfl | (simp (disch := decide) only [mpushs_nil, mpushs_cons, mget_hd, mget_tl, mget_appW_o, mget_appW_n]))) rfl))) ?_
  refine imp exStr_b ?_
  refine imp (opM_of (show _ = some ((strA a1.Call), []) from (ldS_ptr (b := ⟨[(strA a1.Call), (intA a1.Push), (intA a1.Hold), (intA a1.Leave)], 31⟩) (by first | rfl | (rw [look'_mem (by first | rfl | simp [topId_blk] | simp [topId])]; first | rfl | (simp (disch := decide) only [mpushs_nil, mpushs_cons, mget_hd, mget_tl, mget_appW_o, mget_appW_n]))) rfl))) ?_
  refine imp exStr_b ?_
  refine bind_b fun x26 h26 => ?_
  refine imp (callF_says (sg17 h26)) ?_
  refine imp ex_i64_b ?_
  refine imp (opM_of (show _ = some ((blkV intE 13 ([(IntKind.wrap .i64 (a0.Hold - a1.Hold)), x26] : List Int)), [(13, some ⟨encs intE ([(IntKind.wrap .i64 (a0.Hold - a1.Hold)), x26] : List Int), 3⟩)]) from rfl)) ?_
  refine bind_b fun x28 h28 => ?_
  refine imp (callF_pure [13] (pure_snapN (snL_cons (sn_blk (E := intE) (ty := 3) (l' := ([(IntKind.wrap .i64 (a0.Hold - a1.Hold)), x26] : List Int)) _ intE.nf rfl (by first | rfl | (simp (disch := decide) only [mpushs_nil, mpushs_cons, mget_hd, mget_tl, mget_appW_o, mget_appW_n]))) snL_nil) (sg16 h28) rfl)) ?_
  refine imp ex_i64_b ?_
  refine imp (chk_of (by kernel_rfl)) ?_
  exact fun hg => ret1 (hR _ (Option.some.inj hg).symm) (fz_sc _ _)
theorem sg15 {n : Nat} {a0 : TTaxiMove} {a1 : TTaxiMove} {t : ρ15} (h : g15 n a0 a1 = some t) : Says Try.prog KK.gl 15 [(AV.agg [(strA a0.Call), (intA a0.Push), (intA a0.Hold), (intA a0.Leave)]), (AV.agg [(strA a1.Call), (intA a1.Push), (intA a1.Hold), (intA a1.Leave)])] ((intA t)) :=
  says_of_own (by first | rfl | simp [cleans, clean, encs_clean, En.cln]) (by first | rfl | simp [cleans, clean, encs_clean, En.cln]) (F15_own a0.Call a0.Push a0.Hold a0.Leave a1.Call a1.Push a1.Hold a1.Leave _ (g15_ok n a0 a1 (Ans ((intA t))) (fun r e u m h => by rw [e]; exact h) h))
/- skyway/taxi.Queue -/
theorem B6_1_ok (n : Nat) (a2 : Int) (c7 : Int) (c54 : Int) (v55 : Int) (L90000 : List TTaxiMove) {t : (Int × List TTaxiMove) ⊕ ρ6} (R : AV → Mem → Prop) (N0 : St → Prop) (hR : ∀ r : ρ6, t = (.inr r) → ∀ u m, Ans ((AV.tup [(lstA TTaxiMove.E r.1), (intA r.2)])) u m → R u m) (hN0 : ∀ y : Int × List TTaxiMove, t = (.inl y) → ∀ s' : St, Weak KK 95 0 s' (h6_1 a2 AV.nils c7 (ownV TTaxiMove.E 90000 y.2) c54 y.1 [(90000, ownB TTaxiMove.E 31 y.2)]) → N0 s') : S6_1 n a2 c7 c54 v55 L90000 = some t → B6_1 a2 AV.nils c7 (ownV TTaxiMove.E 90000 L90000) c54 v55 [(90000, ownB TTaxiMove.E 31 L90000)] R N0 := by
  unfold S6_1 B6_1
  refine cond_b (fun _ => ?_) (fun _ => ?_)
  · refine bind_b fun x30 h30 => ?_
    refine imp (opP_of (show _ = some ((AV.ptr 90000 (((v55 : Int).toNat) * 4 + 0)), []) from (idx_own (E := TTaxiMove.E) rfl h30))) ?_
    refine imp (opP_of (show _ = some ((AV.ptr 90000 (((v55 : Int).toNat) * 4 + 2)), []) from rfl)) ?_
    refine imp (opP_of (show _ = some ((intA x30.Hold), []) from (ldS_blk (E := TTaxiMove.E) (l := L90000) (ty := 31) (o := 2) (own_some (ty := 31) (by first | rfl | (simp (disch := decide) only [mpushs_nil, mpushs_cons, mget_hd, mget_tl, mget_appW_o, mget_appW_n])) (getI_some h30).2) (getI_some h30).2 rfl (by decide) rfl))) ?_
    refine imp ex_i64_b ?_
    refine bind_b fun x31 h31 => ?_
    refine imp (opP_of (show _ = some ((AV.ptr 90000 (((v55 : Int).toNat) * 4 + 0)), []) from (idx_own (E := TTaxiMove.E) rfl h31))) ?_
    refine imp (opP_of (show _ = some ((AV.ptr 90000 (((v55 : Int).toNat) * 4 + 3)), []) from rfl)) ?_
    refine imp (storeW_elO (E := TTaxiMove.E) (l := L90000) (i := ((v55 : Int).toNat)) (o := 3) (y := (⟨x31.Call, x31.Push, x31.Hold, x30.Hold⟩ : TTaxiMove)) (ty := 31) (by kernel_rfl) (by kernel_rfl) rfl (by first | rfl | (simp (disch := decide) only [mpushs_nil, mpushs_cons, mget_hd, mget_tl, mget_appW_o, mget_appW_n])) (getI_some h31).2 rfl (by decide) rfl) ?_
    refine cond_b (fun _ => ?_) (fun _ => ?_)
    · refine bind_b fun x32 h32 => ?_
      refine imp (opM_of (show _ = some ((AV.ptr 90000 (((v55 : Int).toNat) * 4 + 0)), []) from (idx_own (E := TTaxiMove.E) (by first | rfl | omega | (simp; done) | (simp; omega)) h32))) ?_
      refine imp (opM_of (show _ = some ((AV.ptr 90000 (((v55 : Int).toNat) * 4 + 3)), []) from rfl)) ?_
      refine imp (opM_of (show _ = some ((intA x32.Leave), []) from (ldS_blk (E := TTaxiMove.E) (l := (L90000.set ((v55 : Int).toNat) (⟨x31.Call, x31.Push, x31.Hold, x30.Hold⟩ : TTaxiMove))) (ty := 31) (o := 3) (own_some (ty := 31) (by first | rfl | (rw [look'_mem (by first | rfl | simp [topId_blk] | simp [topId])]; first | rfl | (simp (disch := decide) only [mpushs_nil, mpushs_cons, mget_hd, mget_tl, mget_appW_o, mget_appW_n]))) (getI_some h32).2) (getI_some h32).2 rfl (by decide) rfl))) ?_
      refine imp ex_i64_b ?_
      refine bind_b fun x33 h33 => ?_
      refine imp (opM_of (show _ = some ((AV.ptr 90000 ((((IntKind.wrap .i64 (v55 - (1))) : Int).toNat) * 4 + 0)), []) from (idx_own (E := TTaxiMove.E) (by first | rfl | omega | (simp; done) | (simp; omega)) h33))) ?_
      refine imp (opM_of (show _ = some ((AV.ptr 90000 ((((IntKind.wrap .i64 (v55 - (1))) : Int).toNat) * 4 + 3)), []) from rfl)) ?_
      refine imp (opM_of (show _ = some ((intA x33.Leave), []) from (ldS_blk (E := TTaxiMove.E) (l := (L90000.set ((v55 : Int).toNat) (⟨x31.Call, x31.Push, x31.Hold, x30.Hold⟩ : TTaxiMove))) (ty := 31) (o := 3) (own_some (ty := 31) (by first | rfl | (rw [look'_mem (by first | rfl | simp [topId_blk] | simp [topId])]; first | rfl | (simp (disch := decide) only [mpushs_nil, mpushs_cons, mget_hd, mget_tl, mget_appW_o, mget_appW_n]))) (getI_some h33).2) (getI_some h33).2 rfl (by decide) rfl))) ?_
      refine imp ex_i64_b ?_
      refine imp (opM_of (show _ = some ((intA (if (IntKind.wrap .i64 (x33.Leave + a2)) > x32.Leave then (IntKind.wrap .i64 (x33.Leave + a2)) else x32.Leave)), []) from (by kernel_rfl))) ?_
      refine imp ex_i64_b ?_
      refine bind_b fun x34 h34 => ?_
      refine imp (opM_of (show _ = some ((AV.ptr 90000 (((v55 : Int).toNat) * 4 + 0)), []) from (idx_own (E := TTaxiMove.E) (by first | rfl | omega | (simp; done) | (simp; omega)) h34))) ?_
      refine imp (opM_of (show _ = some ((AV.ptr 90000 (((v55 : Int).toNat) * 4 + 3)), []) from rfl)) ?_
      refine imp (storeW_elO (E := TTaxiMove.E) (l := (L90000.set ((v55 : Int).toNat) (⟨x31.Call, x31.Push, x31.Hold, x30.Hold⟩ : TTaxiMove))) (i := ((v55 : Int).toNat)) (o := 3) (y := (⟨x34.Call, x34.Push, x34.Hold, (if (IntKind.wrap .i64 (x33.Leave + a2)) > x32.Leave then (IntKind.wrap .i64 (x33.Leave + a2)) else x32.Leave)⟩ : TTaxiMove)) (ty := 31) (by kernel_rfl) (by kernel_rfl) rfl (by first | rfl | (rw [look'_mem (by first | rfl | simp [topId_blk] | simp [topId])]; first | rfl | (simp (disch := decide) only [mpushs_nil, mpushs_cons, mget_hd, mget_tl, mget_appW_o, mget_appW_n]))) (getI_some h34).2 rfl (by decide) rfl) ?_
      refine imp (chk_of (by kernel_rfl)) ?_
      refine bind_b fun x35 h35 => ?_
      refine imp (opP_of (show _ = some ((AV.ptr 90000 (((v55 : Int).toNat) * 4 + 0)), []) from (idx_own (E := TTaxiMove.E) (by first | rfl | omega | (simp; done) | (simp; omega)) h35))) ?_
      refine imp (opP_of (show _ = some ((AV.ptr 90000 (((v55 : Int).toNat) * 4 + 3)), []) from rfl)) ?_
      refine imp (opP_of (show _ = some ((intA x35.Leave), []) from (ldS_blk (E := TTaxiMove.E) (l := ((L90000.set ((v55 : Int).toNat) (⟨x31.Call, x31.Push, x31.Hold, x30.Hold⟩ : TTaxiMove)).set ((v55 : Int).toNat) (⟨x34.Call, x34.Push, x34.Hold, (if (IntKind.wrap .i64 (x33.Leave + a2)) > x32.Leave then (IntKind.wrap .i64 (x33.Leave + a2)) else x32.Leave)⟩ : TTaxiMove))) (ty := 31) (o := 3) (own_some (ty := 31) (by first | rfl | (simp (disch := decide) only [mpushs_nil, mpushs_cons, mget_hd, mget_tl, mget_appW_o, mget_appW_n])) (getI_some h35).2) (getI_some h35).2 rfl (by decide) rfl))) ?_
      refine imp ex_i64_b ?_
      refine cond_b (fun _ => ?_) (fun _ => ?_)
      · exact fun hg => retN rfl (hR _ (Option.some.inj hg).symm) (fzL_cons (fz_nils (E := TTaxiMove.E) _) (fzL_cons (fz_sc _ _) fzL_nil))
      · exact fun hg => hN0 _ (Option.some.inj hg).symm _ (weak_mem [(90000, 90000)] rfl rfl rfl (okW_cons (.inl (leV_refl _)) (okW_cons (.inl (leV_refl _)) (okW_cons (.inl (leV_refl _)) (okW_cons (ent_own (E := TTaxiMove.E) (id := 90000) (l' := ((L90000.set ((v55 : Int).toNat) (⟨x31.Call, x31.Push, x31.Hold, x30.Hold⟩ : TTaxiMove)).set ((v55 : Int).toNat) (⟨x34.Call, x34.Push, x34.Hold, (if (IntKind.wrap .i64 (x33.Leave + a2)) > x32.Leave then (IntKind.wrap .i64 (x33.Leave + a2)) else x32.Leave)⟩ : TTaxiMove))) (by first | rfl | omega | (simp; done) | (simp; omega)) rfl) (okW_cons (.inl (leV_refl _)) (okW_cons (.inl (leV_refl _)) okW_nil)))))) (okB_cons (okB_own (E := TTaxiMove.E) (ty := 31) (l' := ((L90000.set ((v55 : Int).toNat) (⟨x31.Call, x31.Push, x31.Hold, x30.Hold⟩ : TTaxiMove)).set ((v55 : Int).toNat) (⟨x34.Call, x34.Push, x34.Hold, (if (IntKind.wrap .i64 (x33.Leave + a2)) > x32.Leave then (IntKind.wrap .i64 (x33.Leave + a2)) else x32.Leave)⟩ : TTaxiMove))) rfl (show mget _ 90000 = _ from (by first | rfl | (simp (disch := decide) only [mpushs_nil, mpushs_cons, mget_hd, mget_tl, mget_appW_o, mget_appW_n])))) okB_nil'))
    · refine bind_b fun x36 h36 => ?_
      refine imp (opP_of (show _ = some ((AV.ptr 90000 (((v55 : Int).toNat) * 4 + 0)), []) from (idx_own (E := TTaxiMove.E) (by first | rfl | omega | (simp; done) | (simp; omega)) h36))) ?_
      refine imp (opP_of (show _ = some ((AV.ptr 90000 (((v55 : Int).toNat) * 4 + 3)), []) from rfl)) ?_
      refine imp (opP_of (show _ = some ((intA x36.Leave), []) from (ldS_blk (E := TTaxiMove.E) (l := (L90000.set ((v55 : Int).toNat) (⟨x31.Call, x31.Push, x31.Hold, x30.Hold⟩ : TTaxiMove))) (ty := 31) (o := 3) (own_some (ty := 31) (by first | rfl | (simp (disch := decide) only [mpushs_nil, mpushs_cons, mget_hd, mget_tl, mget_appW_o, mget_appW_n])) (getI_some h36).2) (getI_some h36).2 rfl (by decide) rfl))) ?_
      refine imp ex_i64_b ?_
      refine cond_b (fun _ => ?_) (fun _ => ?_)
      · exact fun hg => retN rfl (hR _ (Option.some.inj hg).symm) (fzL_cons (fz_nils (E := TTaxiMove.E) _) (fzL_cons (fz_sc _ _) fzL_nil))
      · exact fun hg => hN0 _ (Option.some.inj hg).symm _ (weak_mem [(90000, 90000)] rfl rfl rfl (okW_cons (.inl (leV_refl _)) (okW_cons (.inl (leV_refl _)) (okW_cons (.inl (leV_refl _)) (okW_cons (ent_own (E := TTaxiMove.E) (id := 90000) (l' := (L90000.set ((v55 : Int).toNat) (⟨x31.Call, x31.Push, x31.Hold, x30.Hold⟩ : TTaxiMove))) (by first | rfl | omega | (simp; done) | (simp; omega)) rfl) (okW_cons (.inl (leV_refl _)) (okW_cons (.inl (leV_refl _)) okW_nil)))))) (okB_cons (okB_own (E := TTaxiMove.E) (ty := 31) (l' := (L90000.set ((v55 : Int).toNat) (⟨x31.Call, x31.Push, x31.Hold, x30.Hold⟩ : TTaxiMove))) rfl (show mget _ 90000 = _ from (by first | rfl | (simp (disch := decide) only [mpushs_nil, mpushs_cons, mget_hd, mget_tl, mget_appW_o, mget_appW_n])))) okB_nil'))
  · exact fun hg => retN rfl (hR _ (Option.some.inj hg).symm) (fzL_cons (fz_own (E := TTaxiMove.E) (ty := 31) (l' := L90000) _ rfl (by first | rfl | (simp (disch := decide) only [mpushs_nil, mpushs_cons, mget_hd, mget_tl, mget_appW_o, mget_appW_n]))) (fzL_cons (fz_sc _ _) fzL_nil))
theorem L6_1_ok (n : Nat) (a2 : Int) (c7 : Int) (c54 : Int) {t : ρ6} (R : AV → Mem → Prop) (hR : ∀ r : ρ6, t = r → ∀ u m, Ans ((AV.tup [(lstA TTaxiMove.E r.1), (intA r.2)])) u m → R u m) (k : Nat) (x : Int × List TTaxiMove) (hx : iterO (fun y : Int × List TTaxiMove => S6_1 n a2 c7 c54 y.1 y.2) k x = some t) {s : St} (hw : Weak KK 95 0 s (h6_1 a2 AV.nils c7 (ownV TTaxiMove.E 90000 x.2) c54 x.1 [(90000, ownB TTaxiMove.E 31 x.2)])) : Tri Try.prog KK 95 0 (.loop c6_1) s (q6_1 R ) :=
  L6_1 R  (σ := Nat × (Int × List TTaxiMove)) (fun z => iterO (fun y : Int × List TTaxiMove => S6_1 n a2 c7 c54 y.1 y.2) z.1 z.2 = some t) (fun z => a2) (fun z => AV.nils) (fun z => c7) (fun z => (ownV TTaxiMove.E 90000 z.2.2)) (fun z => c54) (fun z => z.2.1) (fun z => [(90000, ownB TTaxiMove.E 31 z.2.2)]) (fun z => z.1) (by
    rintro ⟨k, y⟩ h
    cases k with
    | zero => exact (iterO_zero h).elim
    | succ k =>
      obtain ⟨u, h1, h2, h3⟩ := iterO_elim h
      exact B6_1_ok n a2 c7 c54 y.1 y.2 R  _ (fun r e => hR r (h3 _ e).symm)  (fun y' e s' hw => ⟨(k, y'), h2 _ e, Nat.lt_succ_self k, hw⟩) h1) (k, x) hx hw
theorem B6_0_ok (n : Nat) (a0 : List TTaxiStand) (a2 : Int) (c7 : Int) (a1 : List TTaxiAsk) (c26 : Int) (v27 : Int) (L90000 : List TTaxiMove) {t : (Int × List TTaxiMove) ⊕ ρ6} (R : AV → Mem → Prop) (N0 : St → Prop) (hR : ∀ r : ρ6, t = (.inr r) → ∀ u m, Ans ((AV.tup [(lstA TTaxiMove.E r.1), (intA r.2)])) u m → R u m) (hN0 : ∀ y : Int × List TTaxiMove, t = (.inl y) → ∀ s' : St, Weak KK 95 0 s' (h6_0 (lstA TTaxiStand.E a0) a2 AV.nils c7 (ownV TTaxiMove.E 90000 y.2) (lstA TTaxiAsk.E a1) c26 y.1 [(90000, ownB TTaxiMove.E 31 y.2)]) → N0 s') : S6_0 n a0 a2 c7 a1 c26 v27 L90000 = some t → B6_0 (lstA TTaxiStand.E a0) a2 AV.nils c7 (ownV TTaxiMove.E 90000 L90000) (lstA TTaxiAsk.E a1) c26 v27 [(90000, ownB TTaxiMove.E 31 L90000)] R N0 := by
  unfold S6_0 B6_0
  refine cond_b (fun _ => ?_) (fun _ => ?_)
  · refine bind_b fun x20 h20 => ?_
    refine imp (opP_of (show _ = some ((AV.ept [(strA x20.Call), (strA x20.Stand), (intA x20.Ready)] 0), []) from (idx_lst (E := TTaxiAsk.E) rfl h20))) ?_
    refine imp (opP_of (show _ = some ((AV.agg [(strA x20.Call), (strA x20.Stand), (intA x20.Ready)]), []) from rfl)) ?_
    refine imp exA3_b ?_
    refine imp exStr_b ?_
    refine imp exStr_b ?_
    refine imp ex_i64_b ?_
    refine imp (opM_of (show _ = some ((strA x20.Call), []) from (ldS_ptr (b := ⟨[(strA x20.Call), (strA x20.Stand), (intA x20.Ready)], 40⟩) (by first | rfl | (rw [look'_mem (by first | rfl | simp [topId_blk] | simp [topId])]; first | rfl | (simp (disch := decide) only [mpushs_nil, mpushs_cons, mget_hd, mget_tl, mget_appW_o, mget_appW_n]))) rfl))) ?_
    refine imp exStr_b ?_
    refine imp (opM_of (show _ = some ((intA x20.Ready), []) from (ldS_ptr (b := ⟨[(strA x20.Call), (strA x20.Stand), (intA x20.Ready)], 40⟩) (by first | rfl | (rw [look'_mem (by first | rfl | simp [topId_blk] | simp [topId])]; first | rfl | (simp (disch := decide) only [mpushs_nil, mpushs_cons, mget_hd, mget_tl, mget_appW_o, mget_appW_n]))) rfl))) ?_
    refine imp ex_i64_b ?_
    refine imp (opM_of (show _ = some ((intA x20.Ready), []) from (ldS_ptr (b := ⟨[(strA x20.Call), (strA x20.Stand), (intA x20.Ready)], 40⟩) (by first | rfl | (rw [look'_mem (by first | rfl | simp [topId_blk] | simp [topId])]; first | rfl | (simp (disch := decide) only [mpushs_nil, mpushs_cons, mget_hd, mget_tl, mget_appW_o, mget_appW_n]))) rfl))) ?_
    refine imp ex_i64_b ?_
    refine imp (opM_of (show _ = some ((strA x20.Stand), []) from (ldS_ptr (b := ⟨[(strA x20.Call), (strA x20.Stand), (intA x20.Ready)], 40⟩) (by first | rfl | (rw [look'_mem (by first | rfl | simp [topId_blk] | simp [topId])]; first | rfl | (simp (disch := decide) only [mpushs_nil, mpushs_cons, mget_hd, mget_tl, mget_appW_o, mget_appW_n]))) rfl))) ?_
    refine imp exStr_b ?_
    refine bind_b fun x21 h21 => ?_
    refine imp (callF_says (sg13 h21)) ?_
    refine imp ex_i64_b ?_
    refine bind_b fun x22 h22 => ?_
    refine imp (opM_of (show _ = some ((AV.ept [(strA x22.Name), (intA x22.Time)] 0), []) from (idx_lst (E := TTaxiStand.E) rfl h22))) ?_
    refine imp (opM_of (show _ = some ((AV.ept [(strA x22.Name), (intA x22.Time)] 1), []) from rfl)) ?_
    refine imp (opM_of (show _ = some ((intA x22.Time), []) from rfl)) ?_
    refine imp ex_i64_b ?_
    refine imp (opM_of (show _ = some ((AV.agg [(strA x20.Call), (intA x20.Ready), (intA (IntKind.wrap .i64 (x20.Ready + x22.Time))), (intA (0))]), []) from rfl)) ?_
    refine imp (opM_of (show _ = some ((blkV TTaxiMove.E 100022 ([(⟨x20.Call, x20.Ready, (IntKind.wrap .i64 (x20.Ready + x22.Time)), (0)⟩ : TTaxiMove)] : List TTaxiMove)), [(100022, some ⟨encs TTaxiMove.E ([(⟨x20.Call, x20.Ready, (IntKind.wrap .i64 (x20.Ready + x22.Time)), (0)⟩ : TTaxiMove)] : List TTaxiMove), 31⟩)]) from rfl)) ?_
    refine bind_b fun x23 h23 => ?_
    refine imp (opM_of (show _ = some ((ownV TTaxiMove.E 100023 (L90000 ++ ([(⟨x20.Call, x20.Ready, (IntKind.wrap .i64 (x20.Ready + x22.Time)), (0)⟩ : TTaxiMove)] : List TTaxiMove))), (appW TTaxiMove.E 100023 90000 31 L90000 ([(⟨x20.Call, x20.Ready, (IntKind.wrap .i64 (x20.Ready + x22.Time)), (0)⟩ : TTaxiMove)] : List TTaxiMove))) from (app_own (E := TTaxiMove.E) (l' := L90000) (xs := ([(⟨x20.Call, x20.Ready, (IntKind.wrap .i64 (x20.Ready + x22.Time)), (0)⟩ : TTaxiMove)] : List TTaxiMove)) rfl rfl (cellsOf_blk (E := TTaxiMove.E) (ty := 31) rfl rfl (by first | rfl | (rw [look'_mem (by first | rfl | simp [topId_blk] | simp [topId])]; first | rfl | (simp (disch := decide) only [mpushs_nil, mpushs_cons, mget_hd, mget_tl, mget_appW_o, mget_appW_n])))) (by simp) rfl (fun hne => look'_own hne rfl (by first | rfl | (simp (disch := decide) only [mpushs_nil, mpushs_cons, mget_hd, mget_tl, mget_appW_o, mget_appW_n]))) h23))) ?_
    refine imp (chk_of (by rcases (L90000) with _ | ⟨_, _⟩ <;> kernel_rfl)) ?_
    exact fun hg => hN0 _ (Option.some.inj hg).symm _ (weak_mem [(90000, 100023)] rfl rfl rfl (okW_cons (ent_lst (E := TTaxiStand.E) _ false) (okW_cons (.inl (leV_refl _)) (okW_cons (.inl (leV_refl _)) (okW_cons (.inl (leV_refl _)) (okW_cons (ent_own (E := TTaxiMove.E) (id := 100023) (l' := (L90000 ++ ([(⟨x20.Call, x20.Ready, (IntKind.wrap .i64 (x20.Ready + x22.Time)), (0)⟩ : TTaxiMove)] : List TTaxiMove))) rfl rfl) (okW_cons (ent_lst (E := TTaxiAsk.E) _ false) (okW_cons (.inl (leV_refl _)) (okW_cons (.inl (leV_refl _)) okW_nil)))))))) (okB_cons (okB_own (E := TTaxiMove.E) (ty := 31) (l' := (L90000 ++ ([(⟨x20.Call, x20.Ready, (IntKind.wrap .i64 (x20.Ready + x22.Time)), (0)⟩ : TTaxiMove)] : List TTaxiMove))) rfl (show mget _ 100023 = _ from (by first | rfl | (simp (disch := decide) only [mpushs_nil, mpushs_cons, mget_hd, mget_tl, mget_appW_o, mget_appW_n])))) okB_nil'))
  · refine bind_b fun x29 h29 => ?_
    have lh29 := sortO_len h29
    refine imp (callW_sortV (E := TTaxiMove.E) (ty := 31) (l := L90000) (cmp := (fun x y => g15 n x y)) rfl TTaxiMove.ok sorts14 none14 plain14 rfl (by first | rfl | (simp (disch := decide) only [mpushs_nil, mpushs_cons, mget_hd, mget_tl, mget_appW_o, mget_appW_n])) capsOk_nil (fun x y z h => sg15 h) h29) ?_
    refine imp exT0_b ?_
    refine imp (opP_of (show _ = some ((intA (x29.length : Int)), []) from (len_ownL (by first | rfl | omega | (simp; done) | (simp; omega))))) ?_
    refine imp ex_i64_b ?_
    refine mapInr_b fun t0 e0 => ?_
    exact fun hg => L6_1_ok n a2 c7 (x29.length : Int) R  (fun r e => hR r (e0.trans (congrArg Sum.inr e))) n _ hg (weak_mem [(90000, 90000)] rfl rfl rfl (okW_cons (.inl (leV_refl _)) (okW_cons (.inl (leV_refl _)) (okW_cons (.inl (leV_refl _)) (okW_cons (ent_own (E := TTaxiMove.E) (id := 90000) (l' := x29) (by first | rfl | omega | (simp; done) | (simp; omega)) rfl) (okW_cons (.inl (leV_refl _)) (okW_cons (.inl (leV_refl _)) okW_nil)))))) (okB_cons (okB_own (E := TTaxiMove.E) (ty := 31) (l' := x29) rfl (show mget _ 90000 = _ from (by first | rfl | (simp (disch := decide) only [mpushs_nil, mpushs_cons, mget_hd, mget_tl, mget_appW_o, mget_appW_n])))) okB_nil'))
theorem L6_0_ok (n : Nat) (a0 : List TTaxiStand) (a2 : Int) (c7 : Int) (a1 : List TTaxiAsk) (c26 : Int) {t : ρ6} (R : AV → Mem → Prop) (hR : ∀ r : ρ6, t = r → ∀ u m, Ans ((AV.tup [(lstA TTaxiMove.E r.1), (intA r.2)])) u m → R u m) (k : Nat) (x : Int × List TTaxiMove) (hx : iterO (fun y : Int × List TTaxiMove => S6_0 n a0 a2 c7 a1 c26 y.1 y.2) k x = some t) {s : St} (hw : Weak KK 95 0 s (h6_0 (lstA TTaxiStand.E a0) a2 AV.nils c7 (ownV TTaxiMove.E 90000 x.2) (lstA TTaxiAsk.E a1) c26 x.1 [(90000, ownB TTaxiMove.E 31 x.2)])) : Tri Try.prog KK 95 0 (.loop c6_0) s (q6_0 R ) :=
  L6_0 R  (σ := Nat × (Int × List TTaxiMove)) (fun z => iterO (fun y : Int × List TTaxiMove => S6_0 n a0 a2 c7 a1 c26 y.1 y.2) z.1 z.2 = some t) (fun z => (lstA TTaxiStand.E a0)) (fun z => a2) (fun z => AV.nils) (fun z => c7) (fun z => (ownV TTaxiMove.E 90000 z.2.2)) (fun z => (lstA TTaxiAsk.E a1)) (fun z => c26) (fun z => z.2.1) (fun z => [(90000, ownB TTaxiMove.E 31 z.2.2)]) (fun z => z.1) (by
    rintro ⟨k, y⟩ h
    cases k with
    | zero => exact (iterO_zero h).elim
    | succ k =>
      obtain ⟨u, h1, h2, h3⟩ := iterO_elim h
      exact B6_0_ok n a0 a2 c7 a1 c26 y.1 y.2 R  _ (fun r e => hR r (h3 _ e).symm)  (fun y' e s' hw => ⟨(k, y'), h2 _ e, Nat.lt_succ_self k, hw⟩) h1) (k, x) hx hw
theorem g6_ok (n : Nat) (a0 : List TTaxiStand) (a1 : List TTaxiAsk) (a2 : Int) {t : ρ6} (R : AV → Mem → Prop) (hR : ∀ r : ρ6, t = r → ∀ u m, Ans ((AV.tup [(lstA TTaxiMove.E r.1), (intA r.2)])) u m → R u m) : g6 n a0 a1 a2 = some t → F6 (lstA TTaxiStand.E a0) (lstA TTaxiAsk.E a1) a2 R := by
  unfold g6 F6
  refine bind_b fun x19 h19 => ?_
  refine imp (callQ_says (sg12 h19)) ?_
  refine imp ex_i64_b ?_
  refine cond_b (fun _ => ?_) (fun _ => ?_)
  · exact fun hg => retN rfl (hR _ (Option.some.inj hg).symm) (fzL_cons (fz_nils (E := TTaxiMove.E) _) (fzL_cons (fz_sc _ _) fzL_nil))
  · refine cond_b (fun _ => ?_) (fun _ => ?_)
    · exact fun hg => retN rfl (hR _ (Option.some.inj hg).symm) (fzL_cons (fz_nils (E := TTaxiMove.E) _) (fzL_cons (fz_sc _ _) fzL_nil))
    · refine cond_b (fun _ => ?_) (fun _ => ?_)
      · exact fun hg => retN rfl (hR _ (Option.some.inj hg).symm) (fzL_cons (fz_nils (E := TTaxiMove.E) _) (fzL_cons (fz_sc _ _) fzL_nil))
      · refine imp (opP_of (show _ = some ((intA (a1.length : Int)), []) from rfl)) ?_
        refine imp ex_i64_b ?_
        exact fun hg => L6_0_ok n a0 a2 (0) a1 (a1.length : Int) R  hR n _ hg (weak_mem [(90000, 89500)] rfl rfl rfl (okW_cons (ent_lst (E := TTaxiStand.E) _ false) (okW_cons (.inl (leV_refl _)) (okW_cons (.inl (leV_refl _)) (okW_cons (.inl (leV_refl _)) (okW_cons ent_nils_own (okW_cons (ent_lst (E := TTaxiAsk.E) _ false) (okW_cons (.inl (leV_refl _)) (okW_cons (.inl (leV_refl _)) okW_nil)))))))) (okB_cons okB_nil okB_nil'))
theorem sg6 {n : Nat} {a0 : List TTaxiStand} {a1 : List TTaxiAsk} {a2 : Int} {t : ρ6} (h : g6 n a0 a1 a2 = some t) : Says Try.prog KK.gl 6 [(lstA TTaxiStand.E a0), (lstA TTaxiAsk.E a1), (intA a2)] ((AV.tup [(lstA TTaxiMove.E t.1), (intA t.2)])) :=
  says_of_own (by first | rfl | simp [cleans, clean, encs_clean, En.cln]) (by first | rfl | simp [cleans, clean, encs_clean, En.cln]) (F6_own (lstA TTaxiStand.E a0) (lstA TTaxiAsk.E a1) a2 _ (g6_ok n a0 a1 a2 (Ans ((AV.tup [(lstA TTaxiMove.E t.1), (intA t.2)]))) (fun r e u m h => by rw [e]; exact h) h))
/- skyway/taxi.Queue -/
theorem B6_1_okM (n : Nat) (a2 : Int) (c7 : Int) (c54 : Int) (v55 : Int) (L90000 : List TTaxiMove) {t : (Int × List TTaxiMove) ⊕ ρ6} (R : AV → Mem → Prop) (N0 : St → Prop) (hR : ∀ r : ρ6, t = (.inr r) → ∀ u m, MadeT TTaxiMove.E 31 r.1 [Value.int .i64 r.2] u m → R u m) (hN0 : ∀ y : Int × List TTaxiMove, t = (.inl y) → ∀ s' : St, Weak KK 95 0 s' (h6_1 a2 AV.nils c7 (ownV TTaxiMove.E 90000 y.2) c54 y.1 [(90000, ownB TTaxiMove.E 31 y.2)]) → N0 s') : S6_1 n a2 c7 c54 v55 L90000 = some t → B6_1 a2 AV.nils c7 (ownV TTaxiMove.E 90000 L90000) c54 v55 [(90000, ownB TTaxiMove.E 31 L90000)] R N0 := by
  unfold S6_1 B6_1
  refine cond_b (fun _ => ?_) (fun _ => ?_)
  · refine bind_b fun x44 h44 => ?_
    refine imp (opP_of (show _ = some ((AV.ptr 90000 (((v55 : Int).toNat) * 4 + 0)), []) from (idx_own (E := TTaxiMove.E) rfl h44))) ?_
    refine imp (opP_of (show _ = some ((AV.ptr 90000 (((v55 : Int).toNat) * 4 + 2)), []) from rfl)) ?_
    refine imp (opP_of (show _ = some ((intA x44.Hold), []) from (ldS_blk (E := TTaxiMove.E) (l := L90000) (ty := 31) (o := 2) (own_some (ty := 31) (by first | rfl | (simp (disch := decide) only [mpushs_nil, mpushs_cons, mget_hd, mget_tl, mget_appW_o, mget_appW_n])) (getI_some h44).2) (getI_some h44).2 rfl (by decide) rfl))) ?_
    refine imp ex_i64_b ?_
    refine bind_b fun x45 h45 => ?_
    refine imp (opP_of (show _ = some ((AV.ptr 90000 (((v55 : Int).toNat) * 4 + 0)), []) from (idx_own (E := TTaxiMove.E) rfl h45))) ?_
    refine imp (opP_of (show _ = some ((AV.ptr 90000 (((v55 : Int).toNat) * 4 + 3)), []) from rfl)) ?_
    refine imp (storeW_elO (E := TTaxiMove.E) (l := L90000) (i := ((v55 : Int).toNat)) (o := 3) (y := (⟨x45.Call, x45.Push, x45.Hold, x44.Hold⟩ : TTaxiMove)) (ty := 31) (by kernel_rfl) (by kernel_rfl) rfl (by first | rfl | (simp (disch := decide) only [mpushs_nil, mpushs_cons, mget_hd, mget_tl, mget_appW_o, mget_appW_n])) (getI_some h45).2 rfl (by decide) rfl) ?_
    refine cond_b (fun _ => ?_) (fun _ => ?_)
    · refine bind_b fun x46 h46 => ?_
      refine imp (opM_of (show _ = some ((AV.ptr 90000 (((v55 : Int).toNat) * 4 + 0)), []) from (idx_own (E := TTaxiMove.E) (by first | rfl | omega | (simp; done) | (simp; omega)) h46))) ?_
      refine imp (opM_of (show _ = some ((AV.ptr 90000 (((v55 : Int).toNat) * 4 + 3)), []) from rfl)) ?_
      refine imp (opM_of (show _ = some ((intA x46.Leave), []) from (ldS_blk (E := TTaxiMove.E) (l := (L90000.set ((v55 : Int).toNat) (⟨x45.Call, x45.Push, x45.Hold, x44.Hold⟩ : TTaxiMove))) (ty := 31) (o := 3) (own_some (ty := 31) (by first | rfl | (rw [look'_mem (by first | rfl | simp [topId_blk] | simp [topId])]; first | rfl | (simp (disch := decide) only [mpushs_nil, mpushs_cons, mget_hd, mget_tl, mget_appW_o, mget_appW_n]))) (getI_some h46).2) (getI_some h46).2 rfl (by decide) rfl))) ?_
      refine imp ex_i64_b ?_
      refine bind_b fun x47 h47 => ?_
      refine imp (opM_of (show _ = some ((AV.ptr 90000 ((((IntKind.wrap .i64 (v55 - (1))) : Int).toNat) * 4 + 0)), []) from (idx_own (E := TTaxiMove.E) (by first | rfl | omega | (simp; done) | (simp; omega)) h47))) ?_
      refine imp (opM_of (show _ = some ((AV.ptr 90000 ((((IntKind.wrap .i64 (v55 - (1))) : Int).toNat) * 4 + 3)), []) from rfl)) ?_
      refine imp (opM_of (show _ = some ((intA x47.Leave), []) from (ldS_blk (E := TTaxiMove.E) (l := (L90000.set ((v55 : Int).toNat) (⟨x45.Call, x45.Push, x45.Hold, x44.Hold⟩ : TTaxiMove))) (ty := 31) (o := 3) (own_some (ty := 31) (by first | rfl | (rw [look'_mem (by first | rfl | simp [topId_blk] | simp [topId])]; first | rfl | (simp (disch := decide) only [mpushs_nil, mpushs_cons, mget_hd, mget_tl, mget_appW_o, mget_appW_n]))) (getI_some h47).2) (getI_some h47).2 rfl (by decide) rfl))) ?_
      refine imp ex_i64_b ?_
      refine imp (opM_of (show _ = some ((intA (if (IntKind.wrap .i64 (x47.Leave + a2)) > x46.Leave then (IntKind.wrap .i64 (x47.Leave + a2)) else x46.Leave)), []) from (by kernel_rfl))) ?_
      refine imp ex_i64_b ?_
      refine bind_b fun x48 h48 => ?_
      refine imp (opM_of (show _ = some ((AV.ptr 90000 (((v55 : Int).toNat) * 4 + 0)), []) from (idx_own (E := TTaxiMove.E) (by first | rfl | omega | (simp; done) | (simp; omega)) h48))) ?_
      refine imp (opM_of (show _ = some ((AV.ptr 90000 (((v55 : Int).toNat) * 4 + 3)), []) from rfl)) ?_
      refine imp (storeW_elO (E := TTaxiMove.E) (l := (L90000.set ((v55 : Int).toNat) (⟨x45.Call, x45.Push, x45.Hold, x44.Hold⟩ : TTaxiMove))) (i := ((v55 : Int).toNat)) (o := 3) (y := (⟨x48.Call, x48.Push, x48.Hold, (if (IntKind.wrap .i64 (x47.Leave + a2)) > x46.Leave then (IntKind.wrap .i64 (x47.Leave + a2)) else x46.Leave)⟩ : TTaxiMove)) (ty := 31) (by kernel_rfl) (by kernel_rfl) rfl (by first | rfl | (rw [look'_mem (by first | rfl | simp [topId_blk] | simp [topId])]; first | rfl | (simp (disch := decide) only [mpushs_nil, mpushs_cons, mget_hd, mget_tl, mget_appW_o, mget_appW_n]))) (getI_some h48).2 rfl (by decide) rfl) ?_
      refine imp (chk_of (by kernel_rfl)) ?_
      refine bind_b fun x49 h49 => ?_
      refine imp (opP_of (show _ = some ((AV.ptr 90000 (((v55 : Int).toNat) * 4 + 0)), []) from (idx_own (E := TTaxiMove.E) (by first | rfl | omega | (simp; done) | (simp; omega)) h49))) ?_
      refine imp (opP_of (show _ = some ((AV.ptr 90000 (((v55 : Int).toNat) * 4 + 3)), []) from rfl)) ?_
      refine imp (opP_of (show _ = some ((intA x49.Leave), []) from (ldS_blk (E := TTaxiMove.E) (l := ((L90000.set ((v55 : Int).toNat) (⟨x45.Call, x45.Push, x45.Hold, x44.Hold⟩ : TTaxiMove)).set ((v55 : Int).toNat) (⟨x48.Call, x48.Push, x48.Hold, (if (IntKind.wrap .i64 (x47.Leave + a2)) > x46.Leave then (IntKind.wrap .i64 (x47.Leave + a2)) else x46.Leave)⟩ : TTaxiMove))) (ty := 31) (o := 3) (own_some (ty := 31) (by first | rfl | (simp (disch := decide) only [mpushs_nil, mpushs_cons, mget_hd, mget_tl, mget_appW_o, mget_appW_n])) (getI_some h49).2) (getI_some h49).2 rfl (by decide) rfl))) ?_
      refine imp ex_i64_b ?_
      refine cond_b (fun _ => ?_) (fun _ => ?_)
      · exact fun hg => hR _ (Option.some.inj hg).symm _ _ ⟨_, rfl, made_nils_pf⟩
      · exact fun hg => hN0 _ (Option.some.inj hg).symm _ (weak_mem [(90000, 90000)] rfl rfl rfl (okW_cons (.inl (leV_refl _)) (okW_cons (.inl (leV_refl _)) (okW_cons (.inl (leV_refl _)) (okW_cons (ent_own (E := TTaxiMove.E) (id := 90000) (l' := ((L90000.set ((v55 : Int).toNat) (⟨x45.Call, x45.Push, x45.Hold, x44.Hold⟩ : TTaxiMove)).set ((v55 : Int).toNat) (⟨x48.Call, x48.Push, x48.Hold, (if (IntKind.wrap .i64 (x47.Leave + a2)) > x46.Leave then (IntKind.wrap .i64 (x47.Leave + a2)) else x46.Leave)⟩ : TTaxiMove))) (by first | rfl | omega | (simp; done) | (simp; omega)) rfl) (okW_cons (.inl (leV_refl _)) (okW_cons (.inl (leV_refl _)) okW_nil)))))) (okB_cons (okB_own (E := TTaxiMove.E) (ty := 31) (l' := ((L90000.set ((v55 : Int).toNat) (⟨x45.Call, x45.Push, x45.Hold, x44.Hold⟩ : TTaxiMove)).set ((v55 : Int).toNat) (⟨x48.Call, x48.Push, x48.Hold, (if (IntKind.wrap .i64 (x47.Leave + a2)) > x46.Leave then (IntKind.wrap .i64 (x47.Leave + a2)) else x46.Leave)⟩ : TTaxiMove))) rfl (show mget _ 90000 = _ from (by first | rfl | (simp (disch := decide) only [mpushs_nil, mpushs_cons, mget_hd, mget_tl, mget_appW_o, mget_appW_n])))) okB_nil'))
    · refine bind_b fun x50 h50 => ?_
      refine imp (opP_of (show _ = some ((AV.ptr 90000 (((v55 : Int).toNat) * 4 + 0)), []) from (idx_own (E := TTaxiMove.E) (by first | rfl | omega | (simp; done) | (simp; omega)) h50))) ?_
      refine imp (opP_of (show _ = some ((AV.ptr 90000 (((v55 : Int).toNat) * 4 + 3)), []) from rfl)) ?_
      refine imp (opP_of (show _ = some ((intA x50.Leave), []) from (ldS_blk (E := TTaxiMove.E) (l := (L90000.set ((v55 : Int).toNat) (⟨x45.Call, x45.Push, x45.Hold, x44.Hold⟩ : TTaxiMove))) (ty := 31) (o := 3) (own_some (ty := 31) (by first | rfl | (simp (disch := decide) only [mpushs_nil, mpushs_cons, mget_hd, mget_tl, mget_appW_o, mget_appW_n])) (getI_some h50).2) (getI_some h50).2 rfl (by decide) rfl))) ?_
      refine imp ex_i64_b ?_
      refine cond_b (fun _ => ?_) (fun _ => ?_)
      · exact fun hg => hR _ (Option.some.inj hg).symm _ _ ⟨_, rfl, made_nils_pf⟩
      · exact fun hg => hN0 _ (Option.some.inj hg).symm _ (weak_mem [(90000, 90000)] rfl rfl rfl (okW_cons (.inl (leV_refl _)) (okW_cons (.inl (leV_refl _)) (okW_cons (.inl (leV_refl _)) (okW_cons (ent_own (E := TTaxiMove.E) (id := 90000) (l' := (L90000.set ((v55 : Int).toNat) (⟨x45.Call, x45.Push, x45.Hold, x44.Hold⟩ : TTaxiMove))) (by first | rfl | omega | (simp; done) | (simp; omega)) rfl) (okW_cons (.inl (leV_refl _)) (okW_cons (.inl (leV_refl _)) okW_nil)))))) (okB_cons (okB_own (E := TTaxiMove.E) (ty := 31) (l' := (L90000.set ((v55 : Int).toNat) (⟨x45.Call, x45.Push, x45.Hold, x44.Hold⟩ : TTaxiMove))) rfl (show mget _ 90000 = _ from (by first | rfl | (simp (disch := decide) only [mpushs_nil, mpushs_cons, mget_hd, mget_tl, mget_appW_o, mget_appW_n])))) okB_nil'))
  · exact fun hg => hR _ (Option.some.inj hg).symm _ _ ⟨_, rfl, (made_own_pf (E := TTaxiMove.E) (ty := 31) (l := L90000) rfl (by first | rfl | (simp (disch := decide) only [mpushs_nil, mpushs_cons, mget_hd, mget_tl, mget_appW_o, mget_appW_n])))⟩
theorem L6_1_okM (n : Nat) (a2 : Int) (c7 : Int) (c54 : Int) {t : ρ6} (R : AV → Mem → Prop) (hR : ∀ r : ρ6, t = r → ∀ u m, MadeT TTaxiMove.E 31 r.1 [Value.int .i64 r.2] u m → R u m) (k : Nat) (x : Int × List TTaxiMove) (hx : iterO (fun y : Int × List TTaxiMove => S6_1 n a2 c7 c54 y.1 y.2) k x = some t) {s : St} (hw : Weak KK 95 0 s (h6_1 a2 AV.nils c7 (ownV TTaxiMove.E 90000 x.2) c54 x.1 [(90000, ownB TTaxiMove.E 31 x.2)])) : Tri Try.prog KK 95 0 (.loop c6_1) s (q6_1 R ) :=
  L6_1 R  (σ := Nat × (Int × List TTaxiMove)) (fun z => iterO (fun y : Int × List TTaxiMove => S6_1 n a2 c7 c54 y.1 y.2) z.1 z.2 = some t) (fun z => a2) (fun z => AV.nils) (fun z => c7) (fun z => (ownV TTaxiMove.E 90000 z.2.2)) (fun z => c54) (fun z => z.2.1) (fun z => [(90000, ownB TTaxiMove.E 31 z.2.2)]) (fun z => z.1) (by
    rintro ⟨k, y⟩ h
    cases k with
    | zero => exact (iterO_zero h).elim
    | succ k =>
      obtain ⟨u, h1, h2, h3⟩ := iterO_elim h
      exact B6_1_okM n a2 c7 c54 y.1 y.2 R  _ (fun r e => hR r (h3 _ e).symm)  (fun y' e s' hw => ⟨(k, y'), h2 _ e, Nat.lt_succ_self k, hw⟩) h1) (k, x) hx hw
theorem B6_0_okM (n : Nat) (a0 : List TTaxiStand) (a2 : Int) (c7 : Int) (a1 : List TTaxiAsk) (c26 : Int) (v27 : Int) (L90000 : List TTaxiMove) {t : (Int × List TTaxiMove) ⊕ ρ6} (R : AV → Mem → Prop) (N0 : St → Prop) (hR : ∀ r : ρ6, t = (.inr r) → ∀ u m, MadeT TTaxiMove.E 31 r.1 [Value.int .i64 r.2] u m → R u m) (hN0 : ∀ y : Int × List TTaxiMove, t = (.inl y) → ∀ s' : St, Weak KK 95 0 s' (h6_0 (lstA TTaxiStand.E a0) a2 AV.nils c7 (ownV TTaxiMove.E 90000 y.2) (lstA TTaxiAsk.E a1) c26 y.1 [(90000, ownB TTaxiMove.E 31 y.2)]) → N0 s') : S6_0 n a0 a2 c7 a1 c26 v27 L90000 = some t → B6_0 (lstA TTaxiStand.E a0) a2 AV.nils c7 (ownV TTaxiMove.E 90000 L90000) (lstA TTaxiAsk.E a1) c26 v27 [(90000, ownB TTaxiMove.E 31 L90000)] R N0 := by
  unfold S6_0 B6_0
  refine cond_b (fun _ => ?_) (fun _ => ?_)
  · refine bind_b fun x39 h39 => ?_
    refine imp (opP_of (show _ = some ((AV.ept [(strA x39.Call), (strA x39.Stand), (intA x39.Ready)] 0), []) from (idx_lst (E := TTaxiAsk.E) rfl h39))) ?_
    refine imp (opP_of (show _ = some ((AV.agg [(strA x39.Call), (strA x39.Stand), (intA x39.Ready)]), []) from rfl)) ?_
    refine imp exA3_b ?_
    refine imp exStr_b ?_
    refine imp exStr_b ?_
    refine imp ex_i64_b ?_
    refine imp (opM_of (show _ = some ((strA x39.Call), []) from (ldS_ptr (b := ⟨[(strA x39.Call), (strA x39.Stand), (intA x39.Ready)], 40⟩) (by first | rfl | (rw [look'_mem (by first | rfl | simp [topId_blk] | simp [topId])]; first | rfl | (simp (disch := decide) only [mpushs_nil, mpushs_cons, mget_hd, mget_tl, mget_appW_o, mget_appW_n]))) rfl))) ?_
    refine imp exStr_b ?_
    refine imp (opM_of (show _ = some ((intA x39.Ready), []) from (ldS_ptr (b := ⟨[(strA x39.Call), (strA x39.Stand), (intA x39.Ready)], 40⟩) (by first | rfl | (rw [look'_mem (by first | rfl | simp [topId_blk] | simp [topId])]; first | rfl | (simp (disch := decide) only [mpushs_nil, mpushs_cons, mget_hd, mget_tl, mget_appW_o, mget_appW_n]))) rfl))) ?_
    refine imp ex_i64_b ?_
    refine imp (opM_of (show _ = some ((intA x39.Ready), []) from (ldS_ptr (b := ⟨[(strA x39.Call), (strA x39.Stand), (intA x39.Ready)], 40⟩) (by first | rfl | (rw [look'_mem (by first | rfl | simp [topId_blk] | simp [topId])]; first | rfl | (simp (disch := decide) only [mpushs_nil, mpushs_cons, mget_hd, mget_tl, mget_appW_o, mget_appW_n]))) rfl))) ?_
    refine imp ex_i64_b ?_
    refine imp (opM_of (show _ = some ((strA x39.Stand), []) from (ldS_ptr (b := ⟨[(strA x39.Call), (strA x39.Stand), (intA x39.Ready)], 40⟩) (by first | rfl | (rw [look'_mem (by first | rfl | simp [topId_blk] | simp [topId])]; first | rfl | (simp (disch := decide) only [mpushs_nil, mpushs_cons, mget_hd, mget_tl, mget_appW_o, mget_appW_n]))) rfl))) ?_
    refine imp exStr_b ?_
    refine bind_b fun x40 h40 => ?_
    refine imp (callF_says (sg13 h40)) ?_
    refine imp ex_i64_b ?_
    refine bind_b fun x41 h41 => ?_
    refine imp (opM_of (show _ = some ((AV.ept [(strA x41.Name), (intA x41.Time)] 0), []) from (idx_lst (E := TTaxiStand.E) rfl h41))) ?_
    refine imp (opM_of (show _ = some ((AV.ept [(strA x41.Name), (intA x41.Time)] 1), []) from rfl)) ?_
    refine imp (opM_of (show _ = some ((intA x41.Time), []) from rfl)) ?_
    refine imp ex_i64_b ?_
    refine imp (opM_of (show _ = some ((AV.agg [(strA x39.Call), (intA x39.Ready), (intA (IntKind.wrap .i64 (x39.Ready + x41.Time))), (intA (0))]), []) from rfl)) ?_
    refine imp (opM_of (show _ = some ((blkV TTaxiMove.E 100022 ([(⟨x39.Call, x39.Ready, (IntKind.wrap .i64 (x39.Ready + x41.Time)), (0)⟩ : TTaxiMove)] : List TTaxiMove)), [(100022, some ⟨encs TTaxiMove.E ([(⟨x39.Call, x39.Ready, (IntKind.wrap .i64 (x39.Ready + x41.Time)), (0)⟩ : TTaxiMove)] : List TTaxiMove), 31⟩)]) from rfl)) ?_
    refine bind_b fun x42 h42 => ?_
    refine imp (opM_of (show _ = some ((ownV TTaxiMove.E 100023 (L90000 ++ ([(⟨x39.Call, x39.Ready, (IntKind.wrap .i64 (x39.Ready + x41.Time)), (0)⟩ : TTaxiMove)] : List TTaxiMove))), (appW TTaxiMove.E 100023 90000 31 L90000 ([(⟨x39.Call, x39.Ready, (IntKind.wrap .i64 (x39.Ready + x41.Time)), (0)⟩ : TTaxiMove)] : List TTaxiMove))) from (app_own (E := TTaxiMove.E) (l' := L90000) (xs := ([(⟨x39.Call, x39.Ready, (IntKind.wrap .i64 (x39.Ready + x41.Time)), (0)⟩ : TTaxiMove)] : List TTaxiMove)) rfl rfl (cellsOf_blk (E := TTaxiMove.E) (ty := 31) rfl rfl (by first | rfl | (rw [look'_mem (by first | rfl | simp [topId_blk] | simp [topId])]; first | rfl | (simp (disch := decide) only [mpushs_nil, mpushs_cons, mget_hd, mget_tl, mget_appW_o, mget_appW_n])))) (by simp) rfl (fun hne => look'_own hne rfl (by first | rfl | (simp (disch := decide) only [mpushs_nil, mpushs_cons, mget_hd, mget_tl, mget_appW_o, mget_appW_n]))) h42))) ?_
    refine imp (chk_of (by rcases (L90000) with _ | ⟨_, _⟩ <;> kernel_rfl)) ?_
    exact fun hg => hN0 _ (Option.some.inj hg).symm _ (weak_mem [(90000, 100023)] rfl rfl rfl (okW_cons (ent_lst (E := TTaxiStand.E) _ false) (okW_cons (.inl (leV_refl _)) (okW_cons (.inl (leV_refl _)) (okW_cons (.inl (leV_refl _)) (okW_cons (ent_own (E := TTaxiMove.E) (id := 100023) (l' := (L90000 ++ ([(⟨x39.Call, x39.Ready, (IntKind.wrap .i64 (x39.Ready + x41.Time)), (0)⟩ : TTaxiMove)] : List TTaxiMove))) rfl rfl) (okW_cons (ent_lst (E := TTaxiAsk.E) _ false) (okW_cons (.inl (leV_refl _)) (okW_cons (.inl (leV_refl _)) okW_nil)))))))) (okB_cons (okB_own (E := TTaxiMove.E) (ty := 31) (l' := (L90000 ++ ([(⟨x39.Call, x39.Ready, (IntKind.wrap .i64 (x39.Ready + x41.Time)), (0)⟩ : TTaxiMove)] : List TTaxiMove))) rfl (show mget _ 100023 = _ from (by first | rfl | (simp (disch := decide) only [mpushs_nil, mpushs_cons, mget_hd, mget_tl, mget_appW_o, mget_appW_n])))) okB_nil'))
  · refine bind_b fun x43 h43 => ?_
    have lh43 := sortO_len h43
    refine imp (callW_sortV (E := TTaxiMove.E) (ty := 31) (l := L90000) (cmp := (fun x y => g15 n x y)) rfl TTaxiMove.ok sorts14 none14 plain14 rfl (by first | rfl | (simp (disch := decide) only [mpushs_nil, mpushs_cons, mget_hd, mget_tl, mget_appW_o, mget_appW_n])) capsOk_nil (fun x y z h => sg15 h) h43) ?_
    refine imp exT0_b ?_
    refine imp (opP_of (show _ = some ((intA (x43.length : Int)), []) from (len_ownL (by first | rfl | omega | (simp; done) | (simp; omega))))) ?_
    refine imp ex_i64_b ?_
    refine mapInr_b fun t0 e0 => ?_
    exact fun hg => L6_1_okM n a2 c7 (x43.length : Int) R  (fun r e => hR r (e0.trans (congrArg Sum.inr e))) n _ hg (weak_mem [(90000, 90000)] rfl rfl rfl (okW_cons (.inl (leV_refl _)) (okW_cons (.inl (leV_refl _)) (okW_cons (.inl (leV_refl _)) (okW_cons (ent_own (E := TTaxiMove.E) (id := 90000) (l' := x43) (by first | rfl | omega | (simp; done) | (simp; omega)) rfl) (okW_cons (.inl (leV_refl _)) (okW_cons (.inl (leV_refl _)) okW_nil)))))) (okB_cons (okB_own (E := TTaxiMove.E) (ty := 31) (l' := x43) rfl (show mget _ 90000 = _ from (by first | rfl | (simp (disch := decide) only [mpushs_nil, mpushs_cons, mget_hd, mget_tl, mget_appW_o, mget_appW_n])))) okB_nil'))
theorem L6_0_okM (n : Nat) (a0 : List TTaxiStand) (a2 : Int) (c7 : Int) (a1 : List TTaxiAsk) (c26 : Int) {t : ρ6} (R : AV → Mem → Prop) (hR : ∀ r : ρ6, t = r → ∀ u m, MadeT TTaxiMove.E 31 r.1 [Value.int .i64 r.2] u m → R u m) (k : Nat) (x : Int × List TTaxiMove) (hx : iterO (fun y : Int × List TTaxiMove => S6_0 n a0 a2 c7 a1 c26 y.1 y.2) k x = some t) {s : St} (hw : Weak KK 95 0 s (h6_0 (lstA TTaxiStand.E a0) a2 AV.nils c7 (ownV TTaxiMove.E 90000 x.2) (lstA TTaxiAsk.E a1) c26 x.1 [(90000, ownB TTaxiMove.E 31 x.2)])) : Tri Try.prog KK 95 0 (.loop c6_0) s (q6_0 R ) :=
  L6_0 R  (σ := Nat × (Int × List TTaxiMove)) (fun z => iterO (fun y : Int × List TTaxiMove => S6_0 n a0 a2 c7 a1 c26 y.1 y.2) z.1 z.2 = some t) (fun z => (lstA TTaxiStand.E a0)) (fun z => a2) (fun z => AV.nils) (fun z => c7) (fun z => (ownV TTaxiMove.E 90000 z.2.2)) (fun z => (lstA TTaxiAsk.E a1)) (fun z => c26) (fun z => z.2.1) (fun z => [(90000, ownB TTaxiMove.E 31 z.2.2)]) (fun z => z.1) (by
    rintro ⟨k, y⟩ h
    cases k with
    | zero => exact (iterO_zero h).elim
    | succ k =>
      obtain ⟨u, h1, h2, h3⟩ := iterO_elim h
      exact B6_0_okM n a0 a2 c7 a1 c26 y.1 y.2 R  _ (fun r e => hR r (h3 _ e).symm)  (fun y' e s' hw => ⟨(k, y'), h2 _ e, Nat.lt_succ_self k, hw⟩) h1) (k, x) hx hw
theorem g6_okM (n : Nat) (a0 : List TTaxiStand) (a1 : List TTaxiAsk) (a2 : Int) {t : ρ6} (R : AV → Mem → Prop) (hR : ∀ r : ρ6, t = r → ∀ u m, MadeT TTaxiMove.E 31 r.1 [Value.int .i64 r.2] u m → R u m) : g6 n a0 a1 a2 = some t → F6 (lstA TTaxiStand.E a0) (lstA TTaxiAsk.E a1) a2 R := by
  unfold g6 F6
  refine bind_b fun x38 h38 => ?_
  refine imp (callQ_says (sg12 h38)) ?_
  refine imp ex_i64_b ?_
  refine cond_b (fun _ => ?_) (fun _ => ?_)
  · exact fun hg => hR _ (Option.some.inj hg).symm _ _ ⟨_, rfl, made_nils_pf⟩
  · refine cond_b (fun _ => ?_) (fun _ => ?_)
    · exact fun hg => hR _ (Option.some.inj hg).symm _ _ ⟨_, rfl, made_nils_pf⟩
    · refine cond_b (fun _ => ?_) (fun _ => ?_)
      · exact fun hg => hR _ (Option.some.inj hg).symm _ _ ⟨_, rfl, made_nils_pf⟩
      · refine imp (opP_of (show _ = some ((intA (a1.length : Int)), []) from rfl)) ?_
        refine imp ex_i64_b ?_
        exact fun hg => L6_0_okM n a0 a2 (0) a1 (a1.length : Int) R  hR n _ hg (weak_mem [(90000, 89500)] rfl rfl rfl (okW_cons (ent_lst (E := TTaxiStand.E) _ false) (okW_cons (.inl (leV_refl _)) (okW_cons (.inl (leV_refl _)) (okW_cons (.inl (leV_refl _)) (okW_cons ent_nils_own (okW_cons (ent_lst (E := TTaxiAsk.E) _ false) (okW_cons (.inl (leV_refl _)) (okW_cons (.inl (leV_refl _)) okW_nil)))))))) (okB_cons okB_nil okB_nil'))
theorem mg6C {n k : Nat} {look : Nat → Option ABlk} {a0 : List TTaxiStand} {a1 : List TTaxiAsk} {a2 : Int} {t : ρ6} (h : g6 n a0 a1 a2 = some t) : PureD Try.prog KK.gl look k 6 [(lstA TTaxiStand.E a0), (lstA TTaxiAsk.E a1), (intA a2)] (.tup (ownV TTaxiMove.E k t.1 :: ([Value.int .i64 t.2] : List Value).map AV.sc)) [(k, ownB TTaxiMove.E 31 t.1)] :=
  made_tupC (by first | rfl | simp [cleans, clean, encs_clean, En.cln]) (F6_own (lstA TTaxiStand.E a0) (lstA TTaxiAsk.E a1) a2 _ (g6_okM n a0 a1 a2 (MadeT TTaxiMove.E 31 t.1 [Value.int .i64 t.2]) (fun r e u m h => by rw [e]; exact h) h))
theorem mg6S {n k : Nat} {look : Nat → Option ABlk} {args : List AV} {a0 : List TTaxiStand} {a1 : List TTaxiAsk} {a2 : Int} {t : ρ6} (h : g6 n a0 a1 a2 = some t) (hs : SnL look 6 args [(lstA TTaxiStand.E a0), (lstA TTaxiAsk.E a1), (intA a2)]) : PureD Try.prog KK.gl look k 6 args (.tup (ownV TTaxiMove.E k t.1 :: ([Value.int .i64 t.2] : List Value).map AV.sc)) [(k, ownB TTaxiMove.E 31 t.1)] :=
  made_tupS (fun _ => rfl) hs (F6_own (lstA TTaxiStand.E a0) (lstA TTaxiAsk.E a1) a2 _ (g6_okM n a0 a1 a2 (MadeT TTaxiMove.E 31 t.1 [Value.int .i64 t.2]) (fun r e u m h => by rw [e]; exact h) h))
/- skyway/taxi.Late -/
theorem B7_0_ok (n : Nat) (a3 : Int) (c9 : Int) (c31 : Int) (v32 : Int) (L90000 : List TTaxiMove) {t : (Int × List TTaxiMove) ⊕ ρ7} (R : AV → Mem → Prop) (N0 : St → Prop) (hR : ∀ r : ρ7, t = (.inr r) → ∀ u m, Ans ((AV.tup [(lstA TTaxiMove.E r.1), (intA r.2)])) u m → R u m) (hN0 : ∀ y : Int × List TTaxiMove, t = (.inl y) → ∀ s' : St, Weak KK 70 0 s' (h7_0 a3 AV.nils c9 (ownV TTaxiMove.E 90000 y.2) c31 y.1 [(90000, ownB TTaxiMove.E 31 y.2)]) → N0 s') : S7_0 n a3 c9 c31 v32 L90000 = some t → B7_0 a3 AV.nils c9 (ownV TTaxiMove.E 90000 L90000) c31 v32 [(90000, ownB TTaxiMove.E 31 L90000)] R N0 := by
  unfold S7_0 B7_0
  refine cond_b (fun _ => ?_) (fun _ => ?_)
  · refine bind_b fun x52 h52 => ?_
    refine imp (opP_of (show _ = some ((AV.ptr 90000 (((v32 : Int).toNat) * 4 + 0)), []) from (idx_own (E := TTaxiMove.E) rfl h52))) ?_
    refine imp (opP_of (show _ = some ((AV.ptr 90000 (((v32 : Int).toNat) * 4 + 3)), []) from rfl)) ?_
    refine imp (opP_of (show _ = some ((intA x52.Leave), []) from (ldS_blk (E := TTaxiMove.E) (l := L90000) (ty := 31) (o := 3) (own_some (ty := 31) (by first | rfl | (simp (disch := decide) only [mpushs_nil, mpushs_cons, mget_hd, mget_tl, mget_appW_o, mget_appW_n])) (getI_some h52).2) (getI_some h52).2 rfl (by decide) rfl))) ?_
    refine imp ex_i64_b ?_
    refine bind_b fun x53 h53 => ?_
    refine imp (opP_of (show _ = some ((AV.ptr 90000 (((v32 : Int).toNat) * 4 + 0)), []) from (idx_own (E := TTaxiMove.E) rfl h53))) ?_
    refine imp (opP_of (show _ = some ((AV.ptr 90000 (((v32 : Int).toNat) * 4 + 2)), []) from rfl)) ?_
    refine imp (opP_of (show _ = some ((intA x53.Hold), []) from (ldS_blk (E := TTaxiMove.E) (l := L90000) (ty := 31) (o := 2) (own_some (ty := 31) (by first | rfl | (simp (disch := decide) only [mpushs_nil, mpushs_cons, mget_hd, mget_tl, mget_appW_o, mget_appW_n])) (getI_some h53).2) (getI_some h53).2 rfl (by decide) rfl))) ?_
    refine imp ex_i64_b ?_
    refine cond_b (fun _ => ?_) (fun _ => ?_)
    · refine bind_b fun x54 h54 => ?_
      refine imp (opP_of (show _ = some ((AV.ptr 90000 (((v32 : Int).toNat) * 4 + 0)), []) from (idx_own (E := TTaxiMove.E) rfl h54))) ?_
      refine imp (opP_of (show _ = some ((AV.ptr 90000 (((v32 : Int).toNat) * 4 + 1)), []) from rfl)) ?_
      refine imp (opP_of (show _ = some ((intA x54.Push), []) from (ldS_blk (E := TTaxiMove.E) (l := L90000) (ty := 31) (o := 1) (own_some (ty := 31) (by first | rfl | (simp (disch := decide) only [mpushs_nil, mpushs_cons, mget_hd, mget_tl, mget_appW_o, mget_appW_n])) (getI_some h54).2) (getI_some h54).2 rfl (by decide) rfl))) ?_
      refine imp ex_i64_b ?_
      refine bind_b fun x55 h55 => ?_
      refine imp (opP_of (show _ = some ((AV.ptr 90000 (((v32 : Int).toNat) * 4 + 0)), []) from (idx_own (E := TTaxiMove.E) rfl h55))) ?_
      refine imp (opP_of (show _ = some ((AV.ptr 90000 (((v32 : Int).toNat) * 4 + 1)), []) from rfl)) ?_
      refine imp (storeW_elO (E := TTaxiMove.E) (l := L90000) (i := ((v32 : Int).toNat)) (o := 1) (y := (⟨x55.Call, (IntKind.wrap .i64 (x54.Push + (IntKind.wrap .i64 ((IntKind.wrap .i64 (x52.Leave - x53.Hold)) - a3)))), x55.Hold, x55.Leave⟩ : TTaxiMove)) (ty := 31) (by kernel_rfl) (by kernel_rfl) rfl (by first | rfl | (simp (disch := decide) only [mpushs_nil, mpushs_cons, mget_hd, mget_tl, mget_appW_o, mget_appW_n])) (getI_some h55).2 rfl (by decide) rfl) ?_
      refine bind_b fun x56 h56 => ?_
      refine imp (opP_of (show _ = some ((AV.ptr 90000 (((v32 : Int).toNat) * 4 + 0)), []) from (idx_own (E := TTaxiMove.E) (by first | rfl | omega | (simp; done) | (simp; omega)) h56))) ?_
      refine imp (opP_of (show _ = some ((AV.ptr 90000 (((v32 : Int).toNat) * 4 + 2)), []) from rfl)) ?_
      refine imp (opP_of (show _ = some ((intA x56.Hold), []) from (ldS_blk (E := TTaxiMove.E) (l := (L90000.set ((v32 : Int).toNat) (⟨x55.Call, (IntKind.wrap .i64 (x54.Push + (IntKind.wrap .i64 ((IntKind.wrap .i64 (x52.Leave - x53.Hold)) - a3)))), x55.Hold, x55.Leave⟩ : TTaxiMove))) (ty := 31) (o := 2) (own_some (ty := 31) (by first | rfl | (simp (disch := decide) only [mpushs_nil, mpushs_cons, mget_hd, mget_tl, mget_appW_o, mget_appW_n])) (getI_some h56).2) (getI_some h56).2 rfl (by decide) rfl))) ?_
      refine imp ex_i64_b ?_
      refine bind_b fun x57 h57 => ?_
      refine imp (opP_of (show _ = some ((AV.ptr 90000 (((v32 : Int).toNat) * 4 + 0)), []) from (idx_own (E := TTaxiMove.E) (by first | rfl | omega | (simp; done) | (simp; omega)) h57))) ?_
      refine imp (opP_of (show _ = some ((AV.ptr 90000 (((v32 : Int).toNat) * 4 + 2)), []) from rfl)) ?_
      refine imp (storeW_elO (E := TTaxiMove.E) (l := (L90000.set ((v32 : Int).toNat) (⟨x55.Call, (IntKind.wrap .i64 (x54.Push + (IntKind.wrap .i64 ((IntKind.wrap .i64 (x52.Leave - x53.Hold)) - a3)))), x55.Hold, x55.Leave⟩ : TTaxiMove))) (i := ((v32 : Int).toNat)) (o := 2) (y := (⟨x57.Call, x57.Push, (IntKind.wrap .i64 (x56.Hold + (IntKind.wrap .i64 ((IntKind.wrap .i64 (x52.Leave - x53.Hold)) - a3)))), x57.Leave⟩ : TTaxiMove)) (ty := 31) (by kernel_rfl) (by kernel_rfl) rfl (by first | rfl | (simp (disch := decide) only [mpushs_nil, mpushs_cons, mget_hd, mget_tl, mget_appW_o, mget_appW_n])) (getI_some h57).2 rfl (by decide) rfl) ?_
      exact fun hg => hN0 _ (Option.some.inj hg).symm _ (weak_mem [(90000, 90000)] rfl rfl rfl (okW_cons (.inl (leV_refl _)) (okW_cons (.inl (leV_refl _)) (okW_cons (.inl (leV_refl _)) (okW_cons (ent_own (E := TTaxiMove.E) (id := 90000) (l' := ((L90000.set ((v32 : Int).toNat) (⟨x55.Call, (IntKind.wrap .i64 (x54.Push + (IntKind.wrap .i64 ((IntKind.wrap .i64 (x52.Leave - x53.Hold)) - a3)))), x55.Hold, x55.Leave⟩ : TTaxiMove)).set ((v32 : Int).toNat) (⟨x57.Call, x57.Push, (IntKind.wrap .i64 (x56.Hold + (IntKind.wrap .i64 ((IntKind.wrap .i64 (x52.Leave - x53.Hold)) - a3)))), x57.Leave⟩ : TTaxiMove))) (by first | rfl | omega | (simp; done) | (simp; omega)) rfl) (okW_cons (.inl (leV_refl _)) (okW_cons (.inl (leV_refl _)) okW_nil)))))) (okB_cons (okB_own (E := TTaxiMove.E) (ty := 31) (l' := ((L90000.set ((v32 : Int).toNat) (⟨x55.Call, (IntKind.wrap .i64 (x54.Push + (IntKind.wrap .i64 ((IntKind.wrap .i64 (x52.Leave - x53.Hold)) - a3)))), x55.Hold, x55.Leave⟩ : TTaxiMove)).set ((v32 : Int).toNat) (⟨x57.Call, x57.Push, (IntKind.wrap .i64 (x56.Hold + (IntKind.wrap .i64 ((IntKind.wrap .i64 (x52.Leave - x53.Hold)) - a3)))), x57.Leave⟩ : TTaxiMove))) rfl (show mget _ 90000 = _ from (by first | rfl | (simp (disch := decide) only [mpushs_nil, mpushs_cons, mget_hd, mget_tl, mget_appW_o, mget_appW_n])))) okB_nil'))
    · exact fun hg => hN0 _ (Option.some.inj hg).symm _ (weak_mem [(90000, 90000)] rfl rfl rfl (okW_cons (.inl (leV_refl _)) (okW_cons (.inl (leV_refl _)) (okW_cons (.inl (leV_refl _)) (okW_cons (ent_own (E := TTaxiMove.E) (id := 90000) (l' := L90000) rfl rfl) (okW_cons (.inl (leV_refl _)) (okW_cons (.inl (leV_refl _)) okW_nil)))))) (okB_cons (okB_own (E := TTaxiMove.E) (ty := 31) (l' := L90000) rfl (show mget _ 90000 = _ from (by first | rfl | (simp (disch := decide) only [mpushs_nil, mpushs_cons, mget_hd, mget_tl, mget_appW_o, mget_appW_n])))) okB_nil'))
  · exact fun hg => retN rfl (hR _ (Option.some.inj hg).symm) (fzL_cons (fz_own (E := TTaxiMove.E) (ty := 31) (l' := L90000) _ rfl (by first | rfl | (simp (disch := decide) only [mpushs_nil, mpushs_cons, mget_hd, mget_tl, mget_appW_o, mget_appW_n]))) (fzL_cons (fz_sc _ _) fzL_nil))
theorem L7_0_ok (n : Nat) (a3 : Int) (c9 : Int) (c31 : Int) {t : ρ7} (R : AV → Mem → Prop) (hR : ∀ r : ρ7, t = r → ∀ u m, Ans ((AV.tup [(lstA TTaxiMove.E r.1), (intA r.2)])) u m → R u m) (k : Nat) (x : Int × List TTaxiMove) (hx : iterO (fun y : Int × List TTaxiMove => S7_0 n a3 c9 c31 y.1 y.2) k x = some t) {s : St} (hw : Weak KK 70 0 s (h7_0 a3 AV.nils c9 (ownV TTaxiMove.E 90000 x.2) c31 x.1 [(90000, ownB TTaxiMove.E 31 x.2)])) : Tri Try.prog KK 70 0 (.loop c7_0) s (q7_0 R ) :=
  L7_0 R  (σ := Nat × (Int × List TTaxiMove)) (fun z => iterO (fun y : Int × List TTaxiMove => S7_0 n a3 c9 c31 y.1 y.2) z.1 z.2 = some t) (fun z => a3) (fun z => AV.nils) (fun z => c9) (fun z => (ownV TTaxiMove.E 90000 z.2.2)) (fun z => c31) (fun z => z.2.1) (fun z => [(90000, ownB TTaxiMove.E 31 z.2.2)]) (fun z => z.1) (by
    rintro ⟨k, y⟩ h
    cases k with
    | zero => exact (iterO_zero h).elim
    | succ k =>
      obtain ⟨u, h1, h2, h3⟩ := iterO_elim h
      exact B7_0_ok n a3 c9 c31 y.1 y.2 R  _ (fun r e => hR r (h3 _ e).symm)  (fun y' e s' hw => ⟨(k, y'), h2 _ e, Nat.lt_succ_self k, hw⟩) h1) (k, x) hx hw
theorem g7_ok (n : Nat) (a0 : List TTaxiStand) (a1 : List TTaxiAsk) (a2 : Int) (a3 : Int) {t : ρ7} (R : AV → Mem → Prop) (hR : ∀ r : ρ7, t = r → ∀ u m, Ans ((AV.tup [(lstA TTaxiMove.E r.1), (intA r.2)])) u m → R u m) : g7 n a0 a1 a2 a3 = some t → F7 (lstA TTaxiStand.E a0) (lstA TTaxiAsk.E a1) a2 a3 R := by
  unfold g7 F7
  refine bind_b fun x51 h51 => ?_
  refine imp (callW_D (show PureD _ _ _ _ _ _ (AV.tup [(ownV TTaxiMove.E 5 x51.1), (intA x51.2)]) [(5, ownB TTaxiMove.E 31 x51.1)] from mg6C h51)) ?_
  refine imp exT2_b ?_
  refine imp ex_i64_b ?_
  refine cond_b (fun _ => ?_) (fun _ => ?_)
  · exact fun hg => retN rfl (hR _ (Option.some.inj hg).symm) (fzL_cons (fz_nils (E := TTaxiMove.E) _) (fzL_cons (fz_sc _ _) fzL_nil))
  · refine cond_b (fun _ => ?_) (fun _ => ?_)
    · exact fun hg => retN rfl (hR _ (Option.some.inj hg).symm) (fzL_cons (fz_nils (E := TTaxiMove.E) _) (fzL_cons (fz_sc _ _) fzL_nil))
    · refine cond_b (fun _ => ?_) (fun _ => ?_)
      · exact fun hg => retN rfl (hR _ (Option.some.inj hg).symm) (fzL_cons (fz_nils (E := TTaxiMove.E) _) (fzL_cons (fz_sc _ _) fzL_nil))
      · refine imp (opP_of (show _ = some ((intA (x51.1.length : Int)), []) from len_own)) ?_
        refine imp ex_i64_b ?_
        exact fun hg => L7_0_ok n a3 (0) (x51.1.length : Int) R  hR n _ hg (weak_mem [(90000, 5)] rfl rfl rfl (okW_cons (.inl (leV_refl _)) (okW_cons (.inl (leV_refl _)) (okW_cons (.inl (leV_refl _)) (okW_cons (ent_own (E := TTaxiMove.E) (id := 5) (l' := x51.1) rfl rfl) (okW_cons (.inl (leV_refl _)) (okW_cons (.inl (leV_refl _)) okW_nil)))))) (okB_cons (okB_own (E := TTaxiMove.E) (ty := 31) (l' := x51.1) rfl (show mget _ 5 = _ from (by first | rfl | (simp (disch := decide) only [mpushs_nil, mpushs_cons, mget_hd, mget_tl, mget_appW_o, mget_appW_n])))) okB_nil'))
theorem sg7 {n : Nat} {a0 : List TTaxiStand} {a1 : List TTaxiAsk} {a2 : Int} {a3 : Int} {t : ρ7} (h : g7 n a0 a1 a2 a3 = some t) : Says Try.prog KK.gl 7 [(lstA TTaxiStand.E a0), (lstA TTaxiAsk.E a1), (intA a2), (intA a3)] ((AV.tup [(lstA TTaxiMove.E t.1), (intA t.2)])) :=
  says_of_own (by first | rfl | simp [cleans, clean, encs_clean, En.cln]) (by first | rfl | simp [cleans, clean, encs_clean, En.cln]) (F7_own (lstA TTaxiStand.E a0) (lstA TTaxiAsk.E a1) a2 a3 _ (g7_ok n a0 a1 a2 a3 (Ans ((AV.tup [(lstA TTaxiMove.E t.1), (intA t.2)]))) (fun r e u m h => by rw [e]; exact h) h))
/- skyway/taxi.Late -/
theorem B7_0_okM (n : Nat) (a3 : Int) (c9 : Int) (c31 : Int) (v32 : Int) (L90000 : List TTaxiMove) {t : (Int × List TTaxiMove) ⊕ ρ7} (R : AV → Mem → Prop) (N0 : St → Prop) (hR : ∀ r : ρ7, t = (.inr r) → ∀ u m, MadeT TTaxiMove.E 31 r.1 [Value.int .i64 r.2] u m → R u m) (hN0 : ∀ y : Int × List TTaxiMove, t = (.inl y) → ∀ s' : St, Weak KK 70 0 s' (h7_0 a3 AV.nils c9 (ownV TTaxiMove.E 90000 y.2) c31 y.1 [(90000, ownB TTaxiMove.E 31 y.2)]) → N0 s') : S7_0 n a3 c9 c31 v32 L90000 = some t → B7_0 a3 AV.nils c9 (ownV TTaxiMove.E 90000 L90000) c31 v32 [(90000, ownB TTaxiMove.E 31 L90000)] R N0 := by
  unfold S7_0 B7_0
  refine cond_b (fun _ => ?_) (fun _ => ?_)
  · refine bind_b fun x60 h60 => ?_
    refine imp (opP_of (show _ = some ((AV.ptr 90000 (((v32 : Int).toNat) * 4 + 0)), []) from (idx_own (E := TTaxiMove.E) rfl h60))) ?_
    refine imp (opP_of (show _ = some ((AV.ptr 90000 (((v32 : Int).toNat) * 4 + 3)), []) from rfl)) ?_
    refine imp (opP_of (show _ = some ((intA x60.Leave), []) from (ldS_blk (E := TTaxiMove.E) (l := L90000) (ty := 31) (o := 3) (own_some (ty := 31) (by first | rfl | (simp (disch := decide) only [mpushs_nil, mpushs_cons, mget_hd, mget_tl, mget_appW_o, mget_appW_n])) (getI_some h60).2) (getI_some h60).2 rfl (by decide) rfl))) ?_
    refine imp ex_i64_b ?_
    refine bind_b fun x61 h61 => ?_
    refine imp (opP_of (show _ = some ((AV.ptr 90000 (((v32 : Int).toNat) * 4 + 0)), []) from (idx_own (E := TTaxiMove.E) rfl h61))) ?_
    refine imp (opP_of (show _ = some ((AV.ptr 90000 (((v32 : Int).toNat) * 4 + 2)), []) from rfl)) ?_
    refine imp (opP_of (show _ = some ((intA x61.Hold), []) from (ldS_blk (E := TTaxiMove.E) (l := L90000) (ty := 31) (o := 2) (own_some (ty := 31) (by first | rfl | (simp (disch := decide) only [mpushs_nil, mpushs_cons, mget_hd, mget_tl, mget_appW_o, mget_appW_n])) (getI_some h61).2) (getI_some h61).2 rfl (by decide) rfl))) ?_
    refine imp ex_i64_b ?_
    refine cond_b (fun _ => ?_) (fun _ => ?_)
    · refine bind_b fun x62 h62 => ?_
      refine imp (opP_of (show _ = some ((AV.ptr 90000 (((v32 : Int).toNat) * 4 + 0)), []) from (idx_own (E := TTaxiMove.E) rfl h62))) ?_
      refine imp (opP_of (show _ = some ((AV.ptr 90000 (((v32 : Int).toNat) * 4 + 1)), []) from rfl)) ?_
      refine imp (opP_of (show _ = some ((intA x62.Push), []) from (ldS_blk (E := TTaxiMove.E) (l := L90000) (ty := 31) (o := 1) (own_some (ty := 31) (by first | rfl | (simp (disch := decide) only [mpushs_nil, mpushs_cons, mget_hd, mget_tl, mget_appW_o, mget_appW_n])) (getI_some h62).2) (getI_some h62).2 rfl (by decide) rfl))) ?_
      refine imp ex_i64_b ?_
      refine bind_b fun x63 h63 => ?_
      refine imp (opP_of (show _ = some ((AV.ptr 90000 (((v32 : Int).toNat) * 4 + 0)), []) from (idx_own (E := TTaxiMove.E) rfl h63))) ?_
      refine imp (opP_of (show _ = some ((AV.ptr 90000 (((v32 : Int).toNat) * 4 + 1)), []) from rfl)) ?_
      refine imp (storeW_elO (E := TTaxiMove.E) (l := L90000) (i := ((v32 : Int).toNat)) (o := 1) (y := (⟨x63.Call, (IntKind.wrap .i64 (x62.Push + (IntKind.wrap .i64 ((IntKind.wrap .i64 (x60.Leave - x61.Hold)) - a3)))), x63.Hold, x63.Leave⟩ : TTaxiMove)) (ty := 31) (by kernel_rfl) (by kernel_rfl) rfl (by first | rfl | (simp (disch := decide) only [mpushs_nil, mpushs_cons, mget_hd, mget_tl, mget_appW_o, mget_appW_n])) (getI_some h63).2 rfl (by decide) rfl) ?_
      refine bind_b fun x64 h64 => ?_
      refine imp (opP_of (show _ = some ((AV.ptr 90000 (((v32 : Int).toNat) * 4 + 0)), []) from (idx_own (E := TTaxiMove.E) (by first | rfl | omega | (simp; done) | (simp; omega)) h64))) ?_
      refine imp (opP_of (show _ = some ((AV.ptr 90000 (((v32 : Int).toNat) * 4 + 2)), []) from rfl)) ?_
      refine imp (opP_of (show _ = some ((intA x64.Hold), []) from (ldS_blk (E := TTaxiMove.E) (l := (L90000.set ((v32 : Int).toNat) (⟨x63.Call, (IntKind.wrap .i64 (x62.Push + (IntKind.wrap .i64 ((IntKind.wrap .i64 (x60.Leave - x61.Hold)) - a3)))), x63.Hold, x63.Leave⟩ : TTaxiMove))) (ty := 31) (o := 2) (own_some (ty := 31) (by first | rfl | (simp (disch := decide) only [mpushs_nil, mpushs_cons, mget_hd, mget_tl, mget_appW_o, mget_appW_n])) (getI_some h64).2) (getI_some h64).2 rfl (by decide) rfl))) ?_
      refine imp ex_i64_b ?_
      refine bind_b fun x65 h65 => ?_
      refine imp (opP_of (show _ = some ((AV.ptr 90000 (((v32 : Int).toNat) * 4 + 0)), []) from (idx_own (E := TTaxiMove.E) (by first | rfl | omega | (simp; done) | (simp; omega)) h65))) ?_
      refine imp (opP_of (show _ = some ((AV.ptr 90000 (((v32 : Int).toNat) * 4 + 2)), []) from rfl)) ?_
      refine imp (storeW_elO (E := TTaxiMove.E) (l := (L90000.set ((v32 : Int).toNat) (⟨x63.Call, (IntKind.wrap .i64 (x62.Push + (IntKind.wrap .i64 ((IntKind.wrap .i64 (x60.Leave - x61.Hold)) - a3)))), x63.Hold, x63.Leave⟩ : TTaxiMove))) (i := ((v32 : Int).toNat)) (o := 2) (y := (⟨x65.Call, x65.Push, (IntKind.wrap .i64 (x64.Hold + (IntKind.wrap .i64 ((IntKind.wrap .i64 (x60.Leave - x61.Hold)) - a3)))), x65.Leave⟩ : TTaxiMove)) (ty := 31) (by kernel_rfl) (by kernel_rfl) rfl (by first | rfl | (simp (disch := decide) only [mpushs_nil, mpushs_cons, mget_hd, mget_tl, mget_appW_o, mget_appW_n])) (getI_some h65).2 rfl (by decide) rfl) ?_
      exact fun hg => hN0 _ (Option.some.inj hg).symm _ (weak_mem [(90000, 90000)] rfl rfl rfl (okW_cons (.inl (leV_refl _)) (okW_cons (.inl (leV_refl _)) (okW_cons (.inl (leV_refl _)) (okW_cons (ent_own (E := TTaxiMove.E) (id := 90000) (l' := ((L90000.set ((v32 : Int).toNat) (⟨x63.Call, (IntKind.wrap .i64 (x62.Push + (IntKind.wrap .i64 ((IntKind.wrap .i64 (x60.Leave - x61.Hold)) - a3)))), x63.Hold, x63.Leave⟩ : TTaxiMove)).set ((v32 : Int).toNat) (⟨x65.Call, x65.Push, (IntKind.wrap .i64 (x64.Hold + (IntKind.wrap .i64 ((IntKind.wrap .i64 (x60.Leave - x61.Hold)) - a3)))), x65.Leave⟩ : TTaxiMove))) (by first | rfl | omega | (simp; done) | (simp; omega)) rfl) (okW_cons (.inl (leV_refl _)) (okW_cons (.inl (leV_refl _)) okW_nil)))))) (okB_cons (okB_own (E := TTaxiMove.E) (ty := 31) (l' := ((L90000.set ((v32 : Int).toNat) (⟨x63.Call, (IntKind.wrap .i64 (x62.Push + (IntKind.wrap .i64 ((IntKind.wrap .i64 (x60.Leave - x61.Hold)) - a3)))), x63.Hold, x63.Leave⟩ : TTaxiMove)).set ((v32 : Int).toNat) (⟨x65.Call, x65.Push, (IntKind.wrap .i64 (x64.Hold + (IntKind.wrap .i64 ((IntKind.wrap .i64 (x60.Leave - x61.Hold)) - a3)))), x65.Leave⟩ : TTaxiMove))) rfl (show mget _ 90000 = _ from (by first | rfl | (simp (disch := decide) only [mpushs_nil, mpushs_cons, mget_hd, mget_tl, mget_appW_o, mget_appW_n])))) okB_nil'))
    · exact fun hg => hN0 _ (Option.some.inj hg).symm _ (weak_mem [(90000, 90000)] rfl rfl rfl (okW_cons (.inl (leV_refl _)) (okW_cons (.inl (leV_refl _)) (okW_cons (.inl (leV_refl _)) (okW_cons (ent_own (E := TTaxiMove.E) (id := 90000) (l' := L90000) rfl rfl) (okW_cons (.inl (leV_refl _)) (okW_cons (.inl (leV_refl _)) okW_nil)))))) (okB_cons (okB_own (E := TTaxiMove.E) (ty := 31) (l' := L90000) rfl (show mget _ 90000 = _ from (by first | rfl | (simp (disch := decide) only [mpushs_nil, mpushs_cons, mget_hd, mget_tl, mget_appW_o, mget_appW_n])))) okB_nil'))
  · exact fun hg => hR _ (Option.some.inj hg).symm _ _ ⟨_, rfl, (made_own_pf (E := TTaxiMove.E) (ty := 31) (l := L90000) rfl (by first | rfl | (simp (disch := decide) only [mpushs_nil, mpushs_cons, mget_hd, mget_tl, mget_appW_o, mget_appW_n])))⟩
theorem L7_0_okM (n : Nat) (a3 : Int) (c9 : Int) (c31 : Int) {t : ρ7} (R : AV → Mem → Prop) (hR : ∀ r : ρ7, t = r → ∀ u m, MadeT TTaxiMove.E 31 r.1 [Value.int .i64 r.2] u m → R u m) (k : Nat) (x : Int × List TTaxiMove) (hx : iterO (fun y : Int × List TTaxiMove => S7_0 n a3 c9 c31 y.1 y.2) k x = some t) {s : St} (hw : Weak KK 70 0 s (h7_0 a3 AV.nils c9 (ownV TTaxiMove.E 90000 x.2) c31 x.1 [(90000, ownB TTaxiMove.E 31 x.2)])) : Tri Try.prog KK 70 0 (.loop c7_0) s (q7_0 R ) :=
  L7_0 R  (σ := Nat × (Int × List TTaxiMove)) (fun z => iterO (fun y : Int × List TTaxiMove => S7_0 n a3 c9 c31 y.1 y.2) z.1 z.2 = some t) (fun z => a3) (fun z => AV.nils) (fun z => c9) (fun z => (ownV TTaxiMove.E 90000 z.2.2)) (fun z => c31) (fun z => z.2.1) (fun z => [(90000, ownB TTaxiMove.E 31 z.2.2)]) (fun z => z.1) (by
    rintro ⟨k, y⟩ h
    cases k with
    | zero => exact (iterO_zero h).elim
    | succ k =>
      obtain ⟨u, h1, h2, h3⟩ := iterO_elim h
      exact B7_0_okM n a3 c9 c31 y.1 y.2 R  _ (fun r e => hR r (h3 _ e).symm)  (fun y' e s' hw => ⟨(k, y'), h2 _ e, Nat.lt_succ_self k, hw⟩) h1) (k, x) hx hw
theorem g7_okM (n : Nat) (a0 : List TTaxiStand) (a1 : List TTaxiAsk) (a2 : Int) (a3 : Int) {t : ρ7} (R : AV → Mem → Prop) (hR : ∀ r : ρ7, t = r → ∀ u m, MadeT TTaxiMove.E 31 r.1 [Value.int .i64 r.2] u m → R u m) : g7 n a0 a1 a2 a3 = some t → F7 (lstA TTaxiStand.E a0) (lstA TTaxiAsk.E a1) a2 a3 R := by
  unfold g7 F7
  refine bind_b fun x59 h59 => ?_
  refine imp (callW_D (show PureD _ _ _ _ _ _ (AV.tup [(ownV TTaxiMove.E 5 x59.1), (intA x59.2)]) [(5, ownB TTaxiMove.E 31 x59.1)] from mg6C h59)) ?_
  refine imp exT2_b ?_
  refine imp ex_i64_b ?_
  refine cond_b (fun _ => ?_) (fun _ => ?_)
  · exact fun hg => hR _ (Option.some.inj hg).symm _ _ ⟨_, rfl, made_nils_pf⟩
  · refine cond_b (fun _ => ?_) (fun _ => ?_)
    · exact fun hg => hR _ (Option.some.inj hg).symm _ _ ⟨_, rfl, made_nils_pf⟩
    · refine cond_b (fun _ => ?_) (fun _ => ?_)
      · exact fun hg => hR _ (Option.some.inj hg).symm _ _ ⟨_, rfl, made_nils_pf⟩
      · refine imp (opP_of (show _ = some ((intA (x59.1.length : Int)), []) from len_own)) ?_
        refine imp ex_i64_b ?_
        exact fun hg => L7_0_okM n a3 (0) (x59.1.length : Int) R  hR n _ hg (weak_mem [(90000, 5)] rfl rfl rfl (okW_cons (.inl (leV_refl _)) (okW_cons (.inl (leV_refl _)) (okW_cons (.inl (leV_refl _)) (okW_cons (ent_own (E := TTaxiMove.E) (id := 5) (l' := x59.1) rfl rfl) (okW_cons (.inl (leV_refl _)) (okW_cons (.inl (leV_refl _)) okW_nil)))))) (okB_cons (okB_own (E := TTaxiMove.E) (ty := 31) (l' := x59.1) rfl (show mget _ 5 = _ from (by first | rfl | (simp (disch := decide) only [mpushs_nil, mpushs_cons, mget_hd, mget_tl, mget_appW_o, mget_appW_n])))) okB_nil'))
theorem mg7C {n k : Nat} {look : Nat → Option ABlk} {a0 : List TTaxiStand} {a1 : List TTaxiAsk} {a2 : Int} {a3 : Int} {t : ρ7} (h : g7 n a0 a1 a2 a3 = some t) : PureD Try.prog KK.gl look k 7 [(lstA TTaxiStand.E a0), (lstA TTaxiAsk.E a1), (intA a2), (intA a3)] (.tup (ownV TTaxiMove.E k t.1 :: ([Value.int .i64 t.2] : List Value).map AV.sc)) [(k, ownB TTaxiMove.E 31 t.1)] :=
  made_tupC (by first | rfl | simp [cleans, clean, encs_clean, En.cln]) (F7_own (lstA TTaxiStand.E a0) (lstA TTaxiAsk.E a1) a2 a3 _ (g7_okM n a0 a1 a2 a3 (MadeT TTaxiMove.E 31 t.1 [Value.int .i64 t.2]) (fun r e u m h => by rw [e]; exact h) h))
theorem mg7S {n k : Nat} {look : Nat → Option ABlk} {args : List AV} {a0 : List TTaxiStand} {a1 : List TTaxiAsk} {a2 : Int} {a3 : Int} {t : ρ7} (h : g7 n a0 a1 a2 a3 = some t) (hs : SnL look 6 args [(lstA TTaxiStand.E a0), (lstA TTaxiAsk.E a1), (intA a2), (intA a3)]) : PureD Try.prog KK.gl look k 7 args (.tup (ownV TTaxiMove.E k t.1 :: ([Value.int .i64 t.2] : List Value).map AV.sc)) [(k, ownB TTaxiMove.E 31 t.1)] :=
  made_tupS (fun _ => rfl) hs (F7_own (lstA TTaxiStand.E a0) (lstA TTaxiAsk.E a1) a2 a3 _ (g7_okM n a0 a1 a2 a3 (MadeT TTaxiMove.E 31 t.1 [Value.int .i64 t.2]) (fun r e u m h => by rw [e]; exact h) h))
end Go.Proofs.Ytjgokfofjkbdoaa
