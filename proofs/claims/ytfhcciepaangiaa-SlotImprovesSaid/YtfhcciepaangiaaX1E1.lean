/- Plain functional programs out of the program's functions, with proofs that the functions compute them; printed by wip/Ext.lean.txt. -/
import Derived.Test.YtfhcciepaangiaaX1G
import Derived.Test.YtfhcciepaangiaaX1F1
import Derived.Test.YtfhcciepaangiaaX1S
set_option linter.unusedVariables false
set_option linter.unusedSimpArgs false
set_option maxRecDepth 100000
namespace Go.Proofs.Ytfhcciepaangiaa
theorem cloneC21 {n : Nat} {look : Nat → Option ABlk} {l : List TSlotDemand} {u : Unit} (h : roomO l.length 24 = some u) : PureD Try.prog KK.gl look n 21 [lstA TSlotDemand.E l] (ownV TSlotDemand.E n l) [(n, ownB TSlotDemand.E 44 l)] :=
  made_ownC (by simp [cleans, clean, encs_clean]) (F21_own _ _ (by
    unfold F21
    exact clone_ok (E := TSlotDemand.E) rfl rfl h))
theorem cloneS21 {n : Nat} {look : Nat → Option ABlk} {args : List AV} {l : List TSlotDemand} {u : Unit} (h : roomO l.length 24 = some u) (hs : SnL look 6 args [lstA TSlotDemand.E l]) : PureD Try.prog KK.gl look n 21 args (ownV TSlotDemand.E n l) [(n, ownB TSlotDemand.E 44 l)] :=
  made_ownS (fun _ => rfl) hs (F21_own _ _ (by
    unfold F21
    exact clone_ok (E := TSlotDemand.E) rfl rfl h))
theorem cloneC45 {n : Nat} {look : Nat → Option ABlk} {l : List TSlot} {u : Unit} (h : roomO l.length 40 = some u) : PureD Try.prog KK.gl look n 45 [lstA TSlot.E l] (ownV TSlot.E n l) [(n, ownB TSlot.E 49 l)] :=
  made_ownC (by simp [cleans, clean, encs_clean]) (F45_own _ _ (by
    unfold F45
    exact clone_ok (E := TSlot.E) rfl rfl h))
theorem cloneS45 {n : Nat} {look : Nat → Option ABlk} {args : List AV} {l : List TSlot} {u : Unit} (h : roomO l.length 40 = some u) (hs : SnL look 6 args [lstA TSlot.E l]) : PureD Try.prog KK.gl look n 45 args (ownV TSlot.E n l) [(n, ownB TSlot.E 49 l)] :=
  made_ownS (fun _ => rfl) hs (F45_own _ _ (by
    unfold F45
    exact clone_ok (E := TSlot.E) rfl rfl h))
/- skyway/skywaykeep3.slotFact -/
theorem sg18 {n : Nat} {t : ρ18} (h : g18 n = some t) : Says Try.prog KK.gl 18 [] (boolA t) := by
  cases h
  exact says_of_evals (K := KF) fol (k := 60) (by decide +kernel)
/- skyway/chart.Name -/
theorem B48_0_ok (n : Nat) (c2 : Bool) (c14 : List UInt8) (c15 : Int) (v16 : Int) {t : (Int) ⊕ ρ48} (R : AV → Mem → Prop) (N0 : St → Prop) (hR : ∀ r : ρ48, t = (.inr r) → ∀ u m, Ans ((boolA r)) u m → R u m) (hN0 : ∀ y : Int, t = (.inl y) → ∀ s' : St, Weak KK 41 0 s' (h48_0 c2 (lstA byteE c14) c15 y []) → N0 s') : S48_0 n c2 c14 c15 v16 = some t → B48_0 c2 (lstA byteE c14) c15 v16 [] R N0 := by
  unfold S48_0 B48_0
  refine cond_b (fun _ => ?_) (fun _ => ?_)
  · refine bind_b fun x2 h2 => ?_
    refine imp (opP_of (show _ = some ((AV.ept [(AV.sc (.int .u8 (x2.toNat : Int)))] 0), []) from (idx_lst (E := byteE) rfl h2))) ?_
    refine imp (opP_of (show _ = some ((AV.sc (.int .u8 (x2.toNat : Int))), []) from rfl)) ?_
    refine imp ex_u8_b ?_
    refine cond_b (fun _ => ?_) (fun _ => ?_)
    · refine cond_b (fun _ => ?_) (fun _ => ?_)
      · exact fun hg => hN0 _ (Option.some.inj hg).symm _ (weak_mem [] rfl rfl rfl (okW_cons (.inl (leV_refl _)) (okW_cons (ent_lst (E := byteE) _ false) (okW_cons (.inl (leV_refl _)) (okW_cons (.inl (leV_refl _)) okW_nil)))) okB_nil')
      · refine cond_b (fun _ => ?_) (fun _ => ?_)
        · refine cond_b (fun _ => ?_) (fun _ => ?_)
          · refine cond_b (fun _ => ?_) (fun _ => ?_)
            · exact fun hg => ret1 (hR _ (Option.some.inj hg).symm) (fz_sc _ _)
            · exact fun hg => hN0 _ (Option.some.inj hg).symm _ (weak_mem [] rfl rfl rfl (okW_cons (.inl (leV_refl _)) (okW_cons (ent_lst (E := byteE) _ false) (okW_cons (.inl (leV_refl _)) (okW_cons (.inl (leV_refl _)) okW_nil)))) okB_nil')
          · exact fun hg => ret1 (hR _ (Option.some.inj hg).symm) (fz_sc _ _)
        · exact fun hg => ret1 (hR _ (Option.some.inj hg).symm) (fz_sc _ _)
    · refine cond_b (fun _ => ?_) (fun _ => ?_)
      · refine cond_b (fun _ => ?_) (fun _ => ?_)
        · refine cond_b (fun _ => ?_) (fun _ => ?_)
          · exact fun hg => ret1 (hR _ (Option.some.inj hg).symm) (fz_sc _ _)
          · exact fun hg => hN0 _ (Option.some.inj hg).symm _ (weak_mem [] rfl rfl rfl (okW_cons (.inl (leV_refl _)) (okW_cons (ent_lst (E := byteE) _ false) (okW_cons (.inl (leV_refl _)) (okW_cons (.inl (leV_refl _)) okW_nil)))) okB_nil')
        · exact fun hg => ret1 (hR _ (Option.some.inj hg).symm) (fz_sc _ _)
      · exact fun hg => ret1 (hR _ (Option.some.inj hg).symm) (fz_sc _ _)
  · exact fun hg => ret1 (hR _ (Option.some.inj hg).symm) (fz_sc _ _)
theorem L48_0_ok (n : Nat) (c2 : Bool) (c14 : List UInt8) (c15 : Int) {t : ρ48} (R : AV → Mem → Prop) (hR : ∀ r : ρ48, t = r → ∀ u m, Ans ((boolA r)) u m → R u m) (k : Nat) (x : Int) (hx : iterO (fun y : Int => S48_0 n c2 c14 c15 y) k x = some t) {s : St} (hw : Weak KK 41 0 s (h48_0 c2 (lstA byteE c14) c15 x [])) : Tri Try.prog KK 41 0 (.loop c48_0) s (q48_0 R ) :=
  L48_0 R  (σ := Nat × (Int)) (fun z => iterO (fun y : Int => S48_0 n c2 c14 c15 y) z.1 z.2 = some t) (fun z => c2) (fun z => (lstA byteE c14)) (fun z => c15) (fun z => z.2) (fun z => []) (fun z => z.1) (by
    rintro ⟨k, y⟩ h
    cases k with
    | zero => exact (iterO_zero h).elim
    | succ k =>
      obtain ⟨u, h1, h2, h3⟩ := iterO_elim h
      exact B48_0_ok n c2 c14 c15 y R  _ (fun r e => hR r (h3 _ e).symm)  (fun y' e s' hw => ⟨(k, y'), h2 _ e, Nat.lt_succ_self k, hw⟩) h1) (k, x) hx hw
theorem g48_ok (n : Nat) (a0 : ByteArray) {t : ρ48} (R : AV → Mem → Prop) (hR : ∀ r : ρ48, t = r → ∀ u m, Ans ((boolA r)) u m → R u m) : g48 n a0 = some t → F48 a0 R := by
  unfold g48 F48
  refine imp (opP_of (show _ = some ((intA (a0.size : Int)), []) from (by kernel_rfl))) ?_
  refine imp ex_i64_b ?_
  refine cond_b (fun _ => ?_) (fun _ => ?_)
  · exact fun hg => ret1 (hR _ (Option.some.inj hg).symm) (fz_sc _ _)
  · refine imp (opP_of (show _ = some ((intA (a0.size : Int)), []) from (by kernel_rfl))) ?_
    refine imp ex_i64_b ?_
    refine cond_b (fun _ => ?_) (fun _ => ?_)
    · exact fun hg => ret1 (hR _ (Option.some.inj hg).symm) (fz_sc _ _)
    · refine bind_b fun x1 h1 => ?_
      refine imp (opP_of (show _ = some ((lstA byteE (a0.data.toList)), []) from (opA_bytes (e := 5) (by kernel_rfl) (by kernel_rfl) (by kernel_rfl) h1))) ?_
      refine imp (opP_of (show _ = some ((intA ((a0.data.toList).length : Int)), []) from rfl)) ?_
      refine imp ex_i64_b ?_
      exact fun hg => L48_0_ok n false (a0.data.toList) ((a0.data.toList).length : Int) R  hR n _ hg (weak_mem [] rfl rfl rfl (okW_cons (.inl (leV_refl _)) (okW_cons (ent_lst (E := byteE) _ false) (okW_cons (.inl (leV_refl _)) (okW_cons (.inl (leV_refl _)) okW_nil)))) okB_nil')
theorem sg48 {n : Nat} {a0 : ByteArray} {t : ρ48} (h : g48 n a0 = some t) : Says Try.prog KK.gl 48 [(strA a0)] ((boolA t)) :=
  says_of_own (by first | rfl | simp [cleans, clean, encs_clean, En.cln]) (by first | rfl | simp [cleans, clean, encs_clean, En.cln]) (F48_own a0 _ (g48_ok n a0 (Ans ((boolA t))) (fun r e u m h => by rw [e]; exact h) h))
/- skyway/slot.Name -/
theorem g34_ok (n : Nat) (a0 : ByteArray) {t : ρ34} (R : AV → Mem → Prop) (hR : ∀ r : ρ34, t = r → ∀ u m, Ans ((boolA r)) u m → R u m) : g34 n a0 = some t → F34 a0 R := by
  unfold g34 F34
  refine bind_b fun x3 h3 => ?_
  refine imp (callQ_says (sg48 h3)) ?_
  refine imp exB_b ?_
  exact fun hg => ret1 (hR _ (Option.some.inj hg).symm) (fz_sc _ _)
theorem sg34 {n : Nat} {a0 : ByteArray} {t : ρ34} (h : g34 n a0 = some t) : Says Try.prog KK.gl 34 [(strA a0)] ((boolA t)) :=
  says_of_own (by first | rfl | simp [cleans, clean, encs_clean, En.cln]) (by first | rfl | simp [cleans, clean, encs_clean, En.cln]) (F34_own a0 _ (g34_ok n a0 (Ans ((boolA t))) (fun r e u m h => by rw [e]; exact h) h))
/- skyway/slot.Check$1 -/
theorem g50_ok (n : Nat) (a0 : TSlotDemand) (a1_0 : ByteArray) (a1_1 : Int) {t : ρ50} (R : AV → Mem → Prop) (hR : ∀ r : ρ50, t = r → ∀ u m, Ans ((boolA r)) u m → R u m) : g50 n a0 a1_0 a1_1 = some t → F50 a0.Call a0.Time (AV.ept [(strA a1_0), (intA a1_1)] 0) R := by
  unfold g50 F50
  refine imp (opP_of (show _ = some ((AV.ept [(strA a1_0), (intA a1_1)] 0), []) from rfl)) ?_
  refine imp (opP_of (show _ = some ((strA a1_0), []) from rfl)) ?_
  refine imp exStr_b ?_
  exact fun hg => ret1 (hR _ (Option.some.inj hg).symm) (fz_sc _ _)
theorem sg50 {n : Nat} {a0 : TSlotDemand} {a1_0 : ByteArray} {a1_1 : Int} {t : ρ50} (h : g50 n a0 a1_0 a1_1 = some t) : Says Try.prog KK.gl 50 [(AV.agg [(strA a0.Call), (intA a0.Time)]), (AV.ept [(strA a1_0), (intA a1_1)] 0)] ((boolA t)) :=
  says_of_own (by first | rfl | simp [cleans, clean, encs_clean, En.cln]) (by first | rfl | simp [cleans, clean, encs_clean, En.cln]) (F50_own a0.Call a0.Time (AV.ept [(strA a1_0), (intA a1_1)] 0) _ (g50_ok n a0 a1_0 a1_1 (Ans ((boolA t))) (fun r e u m h => by rw [e]; exact h) h))
/- slices.IndexFunc[[]skyway/api.SlotDemand,skyway/api.SlotDemand] -/
theorem B54_0_ok (n : Nat) (a0 : List TSlotDemand) (a1_0_0 : ByteArray) (a1_0_1 : Int) (c4 : Int) (c7 : Int) (v8 : Int) {t : (Int) ⊕ ρ54} (R : AV → Mem → Prop) (N0 : St → Prop) (hR : ∀ r : ρ54, t = (.inr r) → ∀ u m, Ans ((intA r)) u m → R u m) (hN0 : ∀ y : Int, t = (.inl y) → ∀ s' : St, Weak KK 19 0 s' (h54_0 (lstA TSlotDemand.E a0) (AV.fn 50 [(AV.ept [(strA a1_0_0), (intA a1_0_1)] 0)]) c4 c7 y []) → N0 s') : S54_0 n a0 a1_0_0 a1_0_1 c4 c7 v8 = some t → B54_0 (lstA TSlotDemand.E a0) (AV.fn 50 [(AV.ept [(strA a1_0_0), (intA a1_0_1)] 0)]) c4 c7 v8 [] R N0 := by
  unfold S54_0 B54_0
  refine cond_b (fun _ => ?_) (fun _ => ?_)
  · refine bind_b fun x8 h8 => ?_
    refine imp (opP_of (show _ = some ((AV.ept [(strA x8.Call), (intA x8.Time)] 0), []) from (idx_lst (E := TSlotDemand.E) rfl h8))) ?_
    refine imp (opP_of (show _ = some ((AV.agg [(strA x8.Call), (intA x8.Time)]), []) from rfl)) ?_
    refine imp exA2_b ?_
    refine imp exStr_b ?_
    refine imp ex_i64_b ?_
    refine bind_b fun x9 h9 => ?_
    refine imp fnArgs_b ?_
    refine imp (cond_ff rfl) ?_
    refine imp (callW_says (sg50 h9)) ?_
    refine imp exB_b ?_
    refine cond_b (fun _ => ?_) (fun _ => ?_)
    · exact fun hg => ret1 (hR _ (Option.some.inj hg).symm) (fz_sc _ _)
    · exact fun hg => hN0 _ (Option.some.inj hg).symm _ (weak_mem [] rfl rfl rfl (okW_cons (ent_lst (E := TSlotDemand.E) _ false) (okW_cons (ent_clean (leV_refl _) (by simp [clean, cleans, encs_clean])) (okW_cons (.inl (leV_refl _)) (okW_cons (.inl (leV_refl _)) (okW_cons (.inl (leV_refl _)) okW_nil))))) okB_nil')
  · exact fun hg => ret1 (hR _ (Option.some.inj hg).symm) (fz_sc _ _)
theorem L54_0_ok (n : Nat) (a0 : List TSlotDemand) (a1_0_0 : ByteArray) (a1_0_1 : Int) (c4 : Int) (c7 : Int) {t : ρ54} (R : AV → Mem → Prop) (hR : ∀ r : ρ54, t = r → ∀ u m, Ans ((intA r)) u m → R u m) (k : Nat) (x : Int) (hx : iterO (fun y : Int => S54_0 n a0 a1_0_0 a1_0_1 c4 c7 y) k x = some t) {s : St} (hw : Weak KK 19 0 s (h54_0 (lstA TSlotDemand.E a0) (AV.fn 50 [(AV.ept [(strA a1_0_0), (intA a1_0_1)] 0)]) c4 c7 x [])) : Tri Try.prog KK 19 0 (.loop c54_0) s (q54_0 R ) :=
  L54_0 R  (σ := Nat × (Int)) (fun z => iterO (fun y : Int => S54_0 n a0 a1_0_0 a1_0_1 c4 c7 y) z.1 z.2 = some t) (fun z => (lstA TSlotDemand.E a0)) (fun z => (AV.fn 50 [(AV.ept [(strA a1_0_0), (intA a1_0_1)] 0)])) (fun z => c4) (fun z => c7) (fun z => z.2) (fun z => []) (fun z => z.1) (by
    rintro ⟨k, y⟩ h
    cases k with
    | zero => exact (iterO_zero h).elim
    | succ k =>
      obtain ⟨u, h1, h2, h3⟩ := iterO_elim h
      exact B54_0_ok n a0 a1_0_0 a1_0_1 c4 c7 y R  _ (fun r e => hR r (h3 _ e).symm)  (fun y' e s' hw => ⟨(k, y'), h2 _ e, Nat.lt_succ_self k, hw⟩) h1) (k, x) hx hw
theorem g54_ok (n : Nat) (a0 : List TSlotDemand) (a1_0_0 : ByteArray) (a1_0_1 : Int) {t : ρ54} (R : AV → Mem → Prop) (hR : ∀ r : ρ54, t = r → ∀ u m, Ans ((intA r)) u m → R u m) : g54 n a0 a1_0_0 a1_0_1 = some t → F54 (lstA TSlotDemand.E a0) (AV.fn 50 [(AV.ept [(strA a1_0_0), (intA a1_0_1)] 0)]) R := by
  unfold g54 F54
  refine imp (opP_of (show _ = some ((intA (a0.length : Int)), []) from rfl)) ?_
  refine imp ex_i64_b ?_
  exact fun hg => L54_0_ok n a0 a1_0_0 a1_0_1 (0) (a0.length : Int) R  hR n _ hg (weak_mem [] rfl rfl rfl (okW_cons (ent_lst (E := TSlotDemand.E) _ false) (okW_cons (ent_clean (leV_refl _) (by simp [clean, cleans, encs_clean])) (okW_cons (.inl (leV_refl _)) (okW_cons (.inl (leV_refl _)) (okW_cons (.inl (leV_refl _)) okW_nil))))) okB_nil')
theorem sg54 {n : Nat} {a0 : List TSlotDemand} {a1_0_0 : ByteArray} {a1_0_1 : Int} {t : ρ54} (h : g54 n a0 a1_0_0 a1_0_1 = some t) : Says Try.prog KK.gl 54 [(lstA TSlotDemand.E a0), (AV.fn 50 [(AV.ept [(strA a1_0_0), (intA a1_0_1)] 0)])] ((intA t)) :=
  says_of_own (by first | rfl | simp [cleans, clean, encs_clean, En.cln]) (by first | rfl | simp [cleans, clean, encs_clean, En.cln]) (F54_own (lstA TSlotDemand.E a0) (AV.fn 50 [(AV.ept [(strA a1_0_0), (intA a1_0_1)] 0)]) _ (g54_ok n a0 a1_0_0 a1_0_1 (Ans ((intA t))) (fun r e u m h => by rw [e]; exact h) h))
/- slices.ContainsFunc[[]skyway/api.SlotDemand,skyway/api.SlotDemand] -/
theorem g49_ok (n : Nat) (a0 : List TSlotDemand) (a1_0_0 : ByteArray) (a1_0_1 : Int) {t : ρ49} (R : AV → Mem → Prop) (hR : ∀ r : ρ49, t = r → ∀ u m, Ans ((boolA r)) u m → R u m) : g49 n a0 a1_0_0 a1_0_1 = some t → F49 (lstA TSlotDemand.E a0) (AV.fn 50 [(AV.ept [(strA a1_0_0), (intA a1_0_1)] 0)]) R := by
  unfold g49 F49
  refine bind_b fun x10 h10 => ?_
  refine imp (callQ_says (sg54 h10)) ?_
  refine imp ex_i64_b ?_
  exact fun hg => ret1 (hR _ (Option.some.inj hg).symm) (fz_sc _ _)
theorem sg49 {n : Nat} {a0 : List TSlotDemand} {a1_0_0 : ByteArray} {a1_0_1 : Int} {t : ρ49} (h : g49 n a0 a1_0_0 a1_0_1 = some t) : Says Try.prog KK.gl 49 [(lstA TSlotDemand.E a0), (AV.fn 50 [(AV.ept [(strA a1_0_0), (intA a1_0_1)] 0)])] ((boolA t)) :=
  says_of_own (by first | rfl | simp [cleans, clean, encs_clean, En.cln]) (by first | rfl | simp [cleans, clean, encs_clean, En.cln]) (F49_own (lstA TSlotDemand.E a0) (AV.fn 50 [(AV.ept [(strA a1_0_0), (intA a1_0_1)] 0)]) _ (g49_ok n a0 a1_0_0 a1_0_1 (Ans ((boolA t))) (fun r e u m h => by rw [e]; exact h) h))
/- skyway/slot.Check -/
theorem B35_0_ok (n : Nat) (a0 : List TSlotDemand) (c2 : Int) (c9 : Int) (v10 : Int) {t : (Int) ⊕ ρ35} (R : AV → Mem → Prop) (N0 : St → Prop) (hR : ∀ r : ρ35, t = (.inr r) → ∀ u m, Ans ((intA r)) u m → R u m) (hN0 : ∀ y : Int, t = (.inl y) → ∀ s' : St, Weak KK 36 0 s' (h35_0 (lstA TSlotDemand.E a0) c2 (lstA TSlotDemand.E a0) c9 y []) → N0 s') : S35_0 n a0 c2 c9 v10 = some t → B35_0 (lstA TSlotDemand.E a0) c2 (lstA TSlotDemand.E a0) c9 v10 [] R N0 := by
  unfold S35_0 B35_0
  refine cond_b (fun _ => ?_) (fun _ => ?_)
  · refine bind_b fun x5 h5 => ?_
    refine imp (opP_of (show _ = some ((AV.ept [(strA x5.Call), (intA x5.Time)] 0), []) from (idx_lst (E := TSlotDemand.E) rfl h5))) ?_
    refine imp (opP_of (show _ = some ((AV.agg [(strA x5.Call), (intA x5.Time)]), []) from rfl)) ?_
    refine imp exA2_b ?_
    refine imp exStr_b ?_
    refine imp ex_i64_b ?_
    refine bind_b fun x6 h6 => ?_
    refine imp (callQ_says (sg34 h6)) ?_
    refine imp exB_b ?_
    refine cond_b (fun _ => ?_) (fun _ => ?_)
    · exact fun hg => ret1 (hR _ (Option.some.inj hg).symm) (fz_sc _ _)
    · refine cond_b (fun _ => ?_) (fun _ => ?_)
      · exact fun hg => ret1 (hR _ (Option.some.inj hg).symm) (fz_sc _ _)
      · refine cond_b (fun _ => ?_) (fun _ => ?_)
        · exact fun hg => ret1 (hR _ (Option.some.inj hg).symm) (fz_sc _ _)
        · refine bind_b fun x7 h7 => ?_
          refine imp (opP_of (show _ = some ((lstA TSlotDemand.E x7), []) from (slc_hi (E := TSlotDemand.E) (e := 44) (by kernel_rfl) (by kernel_rfl) rfl h7))) ?_
          refine bind_b fun x11 h11 => ?_
          refine imp (callQ_pure (pure_snapN (snL_cons (sn_lst (E := TSlotDemand.E) _ _ false) (snL_cons (sn_fn _ _ (snL_cons (sn_ptr _ (ty := 44) (us := [(strA x5.Call), (intA x5.Time)]) (by first | rfl | (simp (disch := decide) only [mpushs_nil, mpushs_cons, mget_hd, mget_tl, mget_appW_o, mget_appW_n])) (snL_cons (sn_sc _ _) (snL_cons (sn_sc _ _) snL_nil))) snL_nil)) snL_nil)) (sg49 h11) rfl)) ?_
          refine imp exB_b ?_
          refine cond_b (fun _ => ?_) (fun _ => ?_)
          · exact fun hg => ret1 (hR _ (Option.some.inj hg).symm) (fz_sc _ _)
          · exact fun hg => hN0 _ (Option.some.inj hg).symm _ (weak_mem [] rfl rfl rfl (okW_cons (ent_lst (E := TSlotDemand.E) _ false) (okW_cons (.inl (leV_refl _)) (okW_cons (ent_lst (E := TSlotDemand.E) _ false) (okW_cons (.inl (leV_refl _)) (okW_cons (.inl (leV_refl _)) okW_nil))))) okB_nil')
  · exact fun hg => ret1 (hR _ (Option.some.inj hg).symm) (fz_sc _ _)
theorem L35_0_ok (n : Nat) (a0 : List TSlotDemand) (c2 : Int) (c9 : Int) {t : ρ35} (R : AV → Mem → Prop) (hR : ∀ r : ρ35, t = r → ∀ u m, Ans ((intA r)) u m → R u m) (k : Nat) (x : Int) (hx : iterO (fun y : Int => S35_0 n a0 c2 c9 y) k x = some t) {s : St} (hw : Weak KK 36 0 s (h35_0 (lstA TSlotDemand.E a0) c2 (lstA TSlotDemand.E a0) c9 x [])) : Tri Try.prog KK 36 0 (.loop c35_0) s (q35_0 R ) :=
  L35_0 R  (σ := Nat × (Int)) (fun z => iterO (fun y : Int => S35_0 n a0 c2 c9 y) z.1 z.2 = some t) (fun z => (lstA TSlotDemand.E a0)) (fun z => c2) (fun z => (lstA TSlotDemand.E a0)) (fun z => c9) (fun z => z.2) (fun z => []) (fun z => z.1) (by
    rintro ⟨k, y⟩ h
    cases k with
    | zero => exact (iterO_zero h).elim
    | succ k =>
      obtain ⟨u, h1, h2, h3⟩ := iterO_elim h
      exact B35_0_ok n a0 c2 c9 y R  _ (fun r e => hR r (h3 _ e).symm)  (fun y' e s' hw => ⟨(k, y'), h2 _ e, Nat.lt_succ_self k, hw⟩) h1) (k, x) hx hw
theorem g35_ok (n : Nat) (a0 : List TSlotDemand) {t : ρ35} (R : AV → Mem → Prop) (hR : ∀ r : ρ35, t = r → ∀ u m, Ans ((intA r)) u m → R u m) : g35 n a0 = some t → F35 (lstA TSlotDemand.E a0) R := by
  unfold g35 F35
  refine imp (opP_of (show _ = some ((intA (a0.length : Int)), []) from rfl)) ?_
  refine imp ex_i64_b ?_
  refine cond_b (fun _ => ?_) (fun _ => ?_)
  · exact fun hg => ret1 (hR _ (Option.some.inj hg).symm) (fz_sc _ _)
  · refine imp (opP_of (show _ = some ((intA (a0.length : Int)), []) from rfl)) ?_
    refine imp ex_i64_b ?_
    exact fun hg => L35_0_ok n a0 (0) (a0.length : Int) R  hR n _ hg (weak_mem [] rfl rfl rfl (okW_cons (ent_lst (E := TSlotDemand.E) _ false) (okW_cons (.inl (leV_refl _)) (okW_cons (ent_lst (E := TSlotDemand.E) _ false) (okW_cons (.inl (leV_refl _)) (okW_cons (.inl (leV_refl _)) okW_nil))))) okB_nil')
theorem sg35 {n : Nat} {a0 : List TSlotDemand} {t : ρ35} (h : g35 n a0 = some t) : Says Try.prog KK.gl 35 [(lstA TSlotDemand.E a0)] ((intA t)) :=
  says_of_own (by first | rfl | simp [cleans, clean, encs_clean, En.cln]) (by first | rfl | simp [cleans, clean, encs_clean, En.cln]) (F35_own (lstA TSlotDemand.E a0) _ (g35_ok n a0 (Ans ((intA t))) (fun r e u m h => by rw [e]; exact h) h))
/- skyway/flow.Check -/
theorem B10_0_ok (n : Nat) (a0 : List TFlowCap) (c2 : Int) (c9 : Int) (v10 : Int) {t : (Int) ⊕ ρ10} (R : AV → Mem → Prop) (N0 : St → Prop) (hR : ∀ r : ρ10, t = (.inr r) → ∀ u m, Ans ((intA r)) u m → R u m) (hN0 : ∀ y : Int, t = (.inl y) → ∀ s' : St, Weak KK 62 0 s' (h10_0 (lstA TFlowCap.E a0) c2 (lstA TFlowCap.E a0) c9 y []) → N0 s') : S10_0 n a0 c2 c9 v10 = some t → B10_0 (lstA TFlowCap.E a0) c2 (lstA TFlowCap.E a0) c9 v10 [] R N0 := by
  unfold S10_0 B10_0
  refine cond_b (fun _ => ?_) (fun _ => ?_)
  · refine bind_b fun x13 h13 => ?_
    refine imp (opP_of (show _ = some ((AV.ept [(intA x13.Span_From), (intA x13.Span_To), (intA x13.Many)] 0), []) from (idx_lst (E := TFlowCap.E) rfl h13))) ?_
    refine imp (opP_of (show _ = some ((AV.agg [(intA x13.Span_From), (intA x13.Span_To), (intA x13.Many)]), []) from rfl)) ?_
    refine imp exA3_b ?_
    refine imp ex_i64_b ?_
    refine imp ex_i64_b ?_
    refine imp ex_i64_b ?_
    refine cond_b (fun _ => ?_) (fun _ => ?_)
    · exact fun hg => ret1 (hR _ (Option.some.inj hg).symm) (fz_sc _ _)
    · refine cond_b (fun _ => ?_) (fun _ => ?_)
      · exact fun hg => ret1 (hR _ (Option.some.inj hg).symm) (fz_sc _ _)
      · refine cond_b (fun _ => ?_) (fun _ => ?_)
        · exact fun hg => ret1 (hR _ (Option.some.inj hg).symm) (fz_sc _ _)
        · refine cond_b (fun _ => ?_) (fun _ => ?_)
          · exact fun hg => ret1 (hR _ (Option.some.inj hg).symm) (fz_sc _ _)
          · refine cond_b (fun _ => ?_) (fun _ => ?_)
            · exact fun hg => ret1 (hR _ (Option.some.inj hg).symm) (fz_sc _ _)
            · refine cond_b (fun _ => ?_) (fun _ => ?_)
              · refine bind_b fun x14 h14 => ?_
                refine imp (opP_of (show _ = some ((AV.ept [(intA x14.Span_From), (intA x14.Span_To), (intA x14.Many)] 0), []) from (idx_lst (E := TFlowCap.E) rfl h14))) ?_
                refine imp (opP_of (show _ = some ((AV.ept [(intA x14.Span_From), (intA x14.Span_To), (intA x14.Many)] 0), []) from rfl)) ?_
                refine imp (opP_of (show _ = some ((AV.ept [(intA x14.Span_From), (intA x14.Span_To), (intA x14.Many)] 1), []) from rfl)) ?_
                refine imp (opP_of (show _ = some ((intA x14.Span_To), []) from rfl)) ?_
                refine imp ex_i64_b ?_
                refine cond_b (fun _ => ?_) (fun _ => ?_)
                · exact fun hg => ret1 (hR _ (Option.some.inj hg).symm) (fz_sc _ _)
                · exact fun hg => hN0 _ (Option.some.inj hg).symm _ (weak_mem [] rfl rfl rfl (okW_cons (ent_lst (E := TFlowCap.E) _ false) (okW_cons (.inl (leV_refl _)) (okW_cons (ent_lst (E := TFlowCap.E) _ false) (okW_cons (.inl (leV_refl _)) (okW_cons (.inl (leV_refl _)) okW_nil))))) okB_nil')
              · exact fun hg => hN0 _ (Option.some.inj hg).symm _ (weak_mem [] rfl rfl rfl (okW_cons (ent_lst (E := TFlowCap.E) _ false) (okW_cons (.inl (leV_refl _)) (okW_cons (ent_lst (E := TFlowCap.E) _ false) (okW_cons (.inl (leV_refl _)) (okW_cons (.inl (leV_refl _)) okW_nil))))) okB_nil')
  · exact fun hg => ret1 (hR _ (Option.some.inj hg).symm) (fz_sc _ _)
theorem L10_0_ok (n : Nat) (a0 : List TFlowCap) (c2 : Int) (c9 : Int) {t : ρ10} (R : AV → Mem → Prop) (hR : ∀ r : ρ10, t = r → ∀ u m, Ans ((intA r)) u m → R u m) (k : Nat) (x : Int) (hx : iterO (fun y : Int => S10_0 n a0 c2 c9 y) k x = some t) {s : St} (hw : Weak KK 62 0 s (h10_0 (lstA TFlowCap.E a0) c2 (lstA TFlowCap.E a0) c9 x [])) : Tri Try.prog KK 62 0 (.loop c10_0) s (q10_0 R ) :=
  L10_0 R  (σ := Nat × (Int)) (fun z => iterO (fun y : Int => S10_0 n a0 c2 c9 y) z.1 z.2 = some t) (fun z => (lstA TFlowCap.E a0)) (fun z => c2) (fun z => (lstA TFlowCap.E a0)) (fun z => c9) (fun z => z.2) (fun z => []) (fun z => z.1) (by
    rintro ⟨k, y⟩ h
    cases k with
    | zero => exact (iterO_zero h).elim
    | succ k =>
      obtain ⟨u, h1, h2, h3⟩ := iterO_elim h
      exact B10_0_ok n a0 c2 c9 y R  _ (fun r e => hR r (h3 _ e).symm)  (fun y' e s' hw => ⟨(k, y'), h2 _ e, Nat.lt_succ_self k, hw⟩) h1) (k, x) hx hw
theorem g10_ok (n : Nat) (a0 : List TFlowCap) {t : ρ10} (R : AV → Mem → Prop) (hR : ∀ r : ρ10, t = r → ∀ u m, Ans ((intA r)) u m → R u m) : g10 n a0 = some t → F10 (lstA TFlowCap.E a0) R := by
  unfold g10 F10
  refine imp (opP_of (show _ = some ((intA (a0.length : Int)), []) from rfl)) ?_
  refine imp ex_i64_b ?_
  refine cond_b (fun _ => ?_) (fun _ => ?_)
  · exact fun hg => ret1 (hR _ (Option.some.inj hg).symm) (fz_sc _ _)
  · refine imp (opP_of (show _ = some ((intA (a0.length : Int)), []) from rfl)) ?_
    refine imp ex_i64_b ?_
    exact fun hg => L10_0_ok n a0 (0) (a0.length : Int) R  hR n _ hg (weak_mem [] rfl rfl rfl (okW_cons (ent_lst (E := TFlowCap.E) _ false) (okW_cons (.inl (leV_refl _)) (okW_cons (ent_lst (E := TFlowCap.E) _ false) (okW_cons (.inl (leV_refl _)) (okW_cons (.inl (leV_refl _)) okW_nil))))) okB_nil')
theorem sg10 {n : Nat} {a0 : List TFlowCap} {t : ρ10} (h : g10 n a0 = some t) : Says Try.prog KK.gl 10 [(lstA TFlowCap.E a0)] ((intA t)) :=
  says_of_own (by first | rfl | simp [cleans, clean, encs_clean, En.cln]) (by first | rfl | simp [cleans, clean, encs_clean, En.cln]) (F10_own (lstA TFlowCap.E a0) _ (g10_ok n a0 (Ans ((intA t))) (fun r e u m h => by rw [e]; exact h) h))
/- cmp.isNaN[string] -/
theorem g53_ok (n : Nat) (a0 : ByteArray) {t : ρ53} (R : AV → Mem → Prop) (hR : ∀ r : ρ53, t = r → ∀ u m, Ans ((boolA r)) u m → R u m) : g53 n a0 = some t → F53 a0 R := by
  unfold g53 F53
  exact fun hg => ret1 (hR _ (Option.some.inj hg).symm) (fz_sc _ _)
theorem sg53 {n : Nat} {a0 : ByteArray} {t : ρ53} (h : g53 n a0 = some t) : Says Try.prog KK.gl 53 [(strA a0)] ((boolA t)) :=
  says_of_own (by first | rfl | simp [cleans, clean, encs_clean, En.cln]) (by first | rfl | simp [cleans, clean, encs_clean, En.cln]) (F53_own a0 _ (g53_ok n a0 (Ans ((boolA t))) (fun r e u m h => by rw [e]; exact h) h))
/- cmp.Compare[string] -/
theorem g39_ok (n : Nat) (a0 : ByteArray) (a1 : ByteArray) {t : ρ39} (R : AV → Mem → Prop) (hR : ∀ r : ρ39, t = r → ∀ u m, Ans ((intA r)) u m → R u m) : g39 n a0 a1 = some t → F39 a0 a1 R := by
  unfold g39 F39
  refine bind_b fun x17 h17 => ?_
  refine imp (callQ_says (sg53 h17)) ?_
  refine imp exB_b ?_
  refine bind_b fun x18 h18 => ?_
  refine imp (callQ_says (sg53 h18)) ?_
  refine imp exB_b ?_
  refine cond_b (fun _ => ?_) (fun _ => ?_)
  · refine cond_b (fun _ => ?_) (fun _ => ?_)
    · exact fun hg => ret1 (hR _ (Option.some.inj hg).symm) (fz_sc _ _)
    · exact fun hg => ret1 (hR _ (Option.some.inj hg).symm) (fz_sc _ _)
  · refine cond_b (fun _ => ?_) (fun _ => ?_)
    · exact fun hg => ret1 (hR _ (Option.some.inj hg).symm) (fz_sc _ _)
    · refine cond_b (fun _ => ?_) (fun _ => ?_)
      · exact fun hg => ret1 (hR _ (Option.some.inj hg).symm) (fz_sc _ _)
      · refine cond_b (fun _ => ?_) (fun _ => ?_)
        · exact fun hg => ret1 (hR _ (Option.some.inj hg).symm) (fz_sc _ _)
        · exact fun hg => ret1 (hR _ (Option.some.inj hg).symm) (fz_sc _ _)
theorem sg39 {n : Nat} {a0 : ByteArray} {a1 : ByteArray} {t : ρ39} (h : g39 n a0 a1 = some t) : Says Try.prog KK.gl 39 [(strA a0), (strA a1)] ((intA t)) :=
  says_of_own (by first | rfl | simp [cleans, clean, encs_clean, En.cln]) (by first | rfl | simp [cleans, clean, encs_clean, En.cln]) (F39_own a0 a1 _ (g39_ok n a0 a1 (Ans ((intA t))) (fun r e u m h => by rw [e]; exact h) h))
/- cmp.Or[int] -/
theorem B38_0_ok (n : Nat) (c2 : Int) (a0 : List Int) (c7 : Int) (v8 : Int) {t : (Int) ⊕ ρ38} (R : AV → Mem → Prop) (N0 : St → Prop) (hR : ∀ r : ρ38, t = (.inr r) → ∀ u m, Ans ((intA r)) u m → R u m) (hN0 : ∀ y : Int, t = (.inl y) → ∀ s' : St, Weak KK 18 0 s' (h38_0 c2 c2 (lstA intE a0) c7 y []) → N0 s') : S38_0 n c2 a0 c7 v8 = some t → B38_0 c2 c2 (lstA intE a0) c7 v8 [] R N0 := by
  unfold S38_0 B38_0
  refine cond_b (fun _ => ?_) (fun _ => ?_)
  · refine bind_b fun x20 h20 => ?_
    refine imp (opP_of (show _ = some ((AV.ept [(intA x20)] 0), []) from (idx_lst (E := intE) rfl h20))) ?_
    refine imp (opP_of (show _ = some ((intA x20), []) from rfl)) ?_
    refine imp ex_i64_b ?_
    refine cond_b (fun _ => ?_) (fun _ => ?_)
    · exact fun hg => ret1 (hR _ (Option.some.inj hg).symm) (fz_sc _ _)
    · exact fun hg => hN0 _ (Option.some.inj hg).symm _ (weak_mem [] rfl rfl rfl (okW_cons (.inl (leV_refl _)) (okW_cons (.inl (leV_refl _)) (okW_cons (ent_lst (E := intE) _ false) (okW_cons (.inl (leV_refl _)) (okW_cons (.inl (leV_refl _)) okW_nil))))) okB_nil')
  · exact fun hg => ret1 (hR _ (Option.some.inj hg).symm) (fz_sc _ _)
theorem L38_0_ok (n : Nat) (c2 : Int) (a0 : List Int) (c7 : Int) {t : ρ38} (R : AV → Mem → Prop) (hR : ∀ r : ρ38, t = r → ∀ u m, Ans ((intA r)) u m → R u m) (k : Nat) (x : Int) (hx : iterO (fun y : Int => S38_0 n c2 a0 c7 y) k x = some t) {s : St} (hw : Weak KK 18 0 s (h38_0 c2 c2 (lstA intE a0) c7 x [])) : Tri Try.prog KK 18 0 (.loop c38_0) s (q38_0 R ) :=
  L38_0 R  (σ := Nat × (Int)) (fun z => iterO (fun y : Int => S38_0 n c2 a0 c7 y) z.1 z.2 = some t) (fun z => c2) (fun z => c2) (fun z => (lstA intE a0)) (fun z => c7) (fun z => z.2) (fun z => []) (fun z => z.1) (by
    rintro ⟨k, y⟩ h
    cases k with
    | zero => exact (iterO_zero h).elim
    | succ k =>
      obtain ⟨u, h1, h2, h3⟩ := iterO_elim h
      exact B38_0_ok n c2 a0 c7 y R  _ (fun r e => hR r (h3 _ e).symm)  (fun y' e s' hw => ⟨(k, y'), h2 _ e, Nat.lt_succ_self k, hw⟩) h1) (k, x) hx hw
theorem g38_ok (n : Nat) (a0 : List Int) {t : ρ38} (R : AV → Mem → Prop) (hR : ∀ r : ρ38, t = r → ∀ u m, Ans ((intA r)) u m → R u m) : g38 n a0 = some t → F38 (lstA intE a0) R := by
  unfold g38 F38
  refine imp (opP_of (show _ = some ((intA (a0.length : Int)), []) from rfl)) ?_
  refine imp ex_i64_b ?_
  exact fun hg => L38_0_ok n (0) a0 (a0.length : Int) R  hR n _ hg (weak_mem [] rfl rfl rfl (okW_cons (.inl (leV_refl _)) (okW_cons (.inl (leV_refl _)) (okW_cons (ent_lst (E := intE) _ false) (okW_cons (.inl (leV_refl _)) (okW_cons (.inl (leV_refl _)) okW_nil))))) okB_nil')
theorem sg38 {n : Nat} {a0 : List Int} {t : ρ38} (h : g38 n a0 = some t) : Says Try.prog KK.gl 38 [(lstA intE a0)] ((intA t)) :=
  says_of_own (by first | rfl | simp [cleans, clean, encs_clean, En.cln]) (by first | rfl | simp [cleans, clean, encs_clean, En.cln]) (F38_own (lstA intE a0) _ (g38_ok n a0 (Ans ((intA t))) (fun r e u m h => by rw [e]; exact h) h))
/- skyway/slot.Assign$1 -/
theorem g37_ok (n : Nat) (a0 : TSlotDemand) (a1 : TSlotDemand) {t : ρ37} (R : AV → Mem → Prop) (hR : ∀ r : ρ37, t = r → ∀ u m, Ans ((intA r)) u m → R u m) : g37 n a0 a1 = some t → F37 a0.Call a0.Time a1.Call a1.Time R := by
  unfold g37 F37
  refine imp (opM_of (show _ = some ((intA a0.Time), []) from (ldS_ptr (b := ⟨[(strA a0.Call), (intA a0.Time)], 44⟩) (by first | rfl | (rw [look'_mem (by first | rfl | simp [topId_blk] | simp [topId])]; first | rfl | (simp (disch := decide) only [mpushs_nil, mpushs_cons, mget_hd, mget_tl, mget_appW_o, mget_appW_n]))) rfl))) ?_
  refine imp ex_i64_b ?_
  refine imp (opM_of (show _ = some ((intA a1.Time), []) from (ldS_ptr (b := ⟨[(strA a1.Call), (intA a1.Time)], 44⟩) (by first | rfl | (rw [look'_mem (by first | rfl | simp [topId_blk] | simp [topId])]; first | rfl | (simp (disch := decide) only [mpushs_nil, mpushs_cons, mget_hd, mget_tl, mget_appW_o, mget_appW_n]))) rfl))) ?_
  refine imp ex_i64_b ?_
  refine imp (opM_of (show _ = some ((strA a0.Call), []) from (ldS_ptr (b := ⟨[(strA a0.Call), (intA a0.Time)], 44⟩) (by first | rfl | (rw [look'_mem (by first | rfl | simp [topId_blk] | simp [topId])]; first | rfl | (simp (disch := decide) only [mpushs_nil, mpushs_cons, mget_hd, mget_tl, mget_appW_o, mget_appW_n]))) rfl))) ?_
  refine imp exStr_b ?_
  refine imp (opM_of (show _ = some ((strA a1.Call), []) from (ldS_ptr (b := ⟨[(strA a1.Call), (intA a1.Time)], 44⟩) (by first | rfl | (rw [look'_mem (by first | rfl | simp [topId_blk] | simp [topId])]; first | rfl | (simp (disch := decide) only [mpushs_nil, mpushs_cons, mget_hd, mget_tl, mget_appW_o, mget_appW_n]))) rfl))) ?_
  refine imp exStr_b ?_
  refine bind_b fun x19 h19 => ?_
  refine imp (callF_says (sg39 h19)) ?_
  refine imp ex_i64_b ?_
  refine imp (opM_of (show _ = some ((blkV intE 13 ([(IntKind.wrap .i64 (a0.Time - a1.Time)), x19] : List Int)), [(13, some ⟨encs intE ([(IntKind.wrap .i64 (a0.Time - a1.Time)), x19] : List Int), 3⟩)]) from rfl)) ?_
  refine bind_b fun x21 h21 => ?_
  refine imp (callF_pure [13] (pure_snapN (snL_cons (sn_blk (E := intE) (ty := 3) (l' := ([(IntKind.wrap .i64 (a0.Time - a1.Time)), x19] : List Int)) _ intE.nf rfl (by first | rfl | (simp (disch := decide) only [mpushs_nil, mpushs_cons, mget_hd, mget_tl, mget_appW_o, mget_appW_n]))) snL_nil) (sg38 h21) rfl)) ?_
  refine imp ex_i64_b ?_
  refine imp (chk_of (by kernel_rfl)) ?_
  exact fun hg => ret1 (hR _ (Option.some.inj hg).symm) (fz_sc _ _)
theorem sg37 {n : Nat} {a0 : TSlotDemand} {a1 : TSlotDemand} {t : ρ37} (h : g37 n a0 a1 = some t) : Says Try.prog KK.gl 37 [(AV.agg [(strA a0.Call), (intA a0.Time)]), (AV.agg [(strA a1.Call), (intA a1.Time)])] ((intA t)) :=
  says_of_own (by first | rfl | simp [cleans, clean, encs_clean, En.cln]) (by first | rfl | simp [cleans, clean, encs_clean, En.cln]) (F37_own a0.Call a0.Time a1.Call a1.Time _ (g37_ok n a0 a1 (Ans ((intA t))) (fun r e u m h => by rw [e]; exact h) h))
/- skyway/slot.Assign$2 -/
theorem g41_ok (n : Nat) (a0 : TFlowCap) (a1_0 : ByteArray) (a1_1 : Int) {t : ρ41} (R : AV → Mem → Prop) (hR : ∀ r : ρ41, t = r → ∀ u m, Ans ((boolA r)) u m → R u m) : g41 n a0 a1_0 a1_1 = some t → F41 a0.Span_From a0.Span_To a0.Many (AV.ept [(strA a1_0), (intA a1_1)] 0) R := by
  unfold g41 F41
  refine imp (opP_of (show _ = some ((AV.ept [(strA a1_0), (intA a1_1)] 1), []) from rfl)) ?_
  refine imp (opP_of (show _ = some ((intA a1_1), []) from rfl)) ?_
  refine imp ex_i64_b ?_
  exact fun hg => ret1 (hR _ (Option.some.inj hg).symm) (fz_sc _ _)
theorem sg41 {n : Nat} {a0 : TFlowCap} {a1_0 : ByteArray} {a1_1 : Int} {t : ρ41} (h : g41 n a0 a1_0 a1_1 = some t) : Says Try.prog KK.gl 41 [(AV.agg [(intA a0.Span_From), (intA a0.Span_To), (intA a0.Many)]), (AV.ept [(strA a1_0), (intA a1_1)] 0)] ((boolA t)) :=
  says_of_own (by first | rfl | simp [cleans, clean, encs_clean, En.cln]) (by first | rfl | simp [cleans, clean, encs_clean, En.cln]) (F41_own a0.Span_From a0.Span_To a0.Many (AV.ept [(strA a1_0), (intA a1_1)] 0) _ (g41_ok n a0 a1_0 a1_1 (Ans ((boolA t))) (fun r e u m h => by rw [e]; exact h) h))
/- slices.IndexFunc[[]skyway/api.FlowCap,skyway/api.FlowCap] -/
theorem B40_0_ok (n : Nat) (a0 : List TFlowCap) (a1_0_0 : ByteArray) (a1_0_1 : Int) (c4 : Int) (c7 : Int) (v8 : Int) {t : (Int) ⊕ ρ40} (R : AV → Mem → Prop) (N0 : St → Prop) (hR : ∀ r : ρ40, t = (.inr r) → ∀ u m, Ans ((intA r)) u m → R u m) (hN0 : ∀ y : Int, t = (.inl y) → ∀ s' : St, Weak KK 19 0 s' (h40_0 (lstA TFlowCap.E a0) (AV.fn 41 [(AV.ept [(strA a1_0_0), (intA a1_0_1)] 0)]) c4 c7 y []) → N0 s') : S40_0 n a0 a1_0_0 a1_0_1 c4 c7 v8 = some t → B40_0 (lstA TFlowCap.E a0) (AV.fn 41 [(AV.ept [(strA a1_0_0), (intA a1_0_1)] 0)]) c4 c7 v8 [] R N0 := by
  unfold S40_0 B40_0
  refine cond_b (fun _ => ?_) (fun _ => ?_)
  · refine bind_b fun x25 h25 => ?_
    refine imp (opP_of (show _ = some ((AV.ept [(intA x25.Span_From), (intA x25.Span_To), (intA x25.Many)] 0), []) from (idx_lst (E := TFlowCap.E) rfl h25))) ?_
    refine imp (opP_of (show _ = some ((AV.agg [(intA x25.Span_From), (intA x25.Span_To), (intA x25.Many)]), []) from rfl)) ?_
    refine imp exA3_b ?_
    refine imp ex_i64_b ?_
    refine imp ex_i64_b ?_
    refine imp ex_i64_b ?_
    refine bind_b fun x26 h26 => ?_
    refine imp fnArgs_b ?_
    refine imp (cond_ff rfl) ?_
    refine imp (callW_says (sg41 h26)) ?_
    refine imp exB_b ?_
    refine cond_b (fun _ => ?_) (fun _ => ?_)
    · exact fun hg => ret1 (hR _ (Option.some.inj hg).symm) (fz_sc _ _)
    · exact fun hg => hN0 _ (Option.some.inj hg).symm _ (weak_mem [] rfl rfl rfl (okW_cons (ent_lst (E := TFlowCap.E) _ false) (okW_cons (ent_clean (leV_refl _) (by simp [clean, cleans, encs_clean])) (okW_cons (.inl (leV_refl _)) (okW_cons (.inl (leV_refl _)) (okW_cons (.inl (leV_refl _)) okW_nil))))) okB_nil')
  · exact fun hg => ret1 (hR _ (Option.some.inj hg).symm) (fz_sc _ _)
theorem L40_0_ok (n : Nat) (a0 : List TFlowCap) (a1_0_0 : ByteArray) (a1_0_1 : Int) (c4 : Int) (c7 : Int) {t : ρ40} (R : AV → Mem → Prop) (hR : ∀ r : ρ40, t = r → ∀ u m, Ans ((intA r)) u m → R u m) (k : Nat) (x : Int) (hx : iterO (fun y : Int => S40_0 n a0 a1_0_0 a1_0_1 c4 c7 y) k x = some t) {s : St} (hw : Weak KK 19 0 s (h40_0 (lstA TFlowCap.E a0) (AV.fn 41 [(AV.ept [(strA a1_0_0), (intA a1_0_1)] 0)]) c4 c7 x [])) : Tri Try.prog KK 19 0 (.loop c40_0) s (q40_0 R ) :=
  L40_0 R  (σ := Nat × (Int)) (fun z => iterO (fun y : Int => S40_0 n a0 a1_0_0 a1_0_1 c4 c7 y) z.1 z.2 = some t) (fun z => (lstA TFlowCap.E a0)) (fun z => (AV.fn 41 [(AV.ept [(strA a1_0_0), (intA a1_0_1)] 0)])) (fun z => c4) (fun z => c7) (fun z => z.2) (fun z => []) (fun z => z.1) (by
    rintro ⟨k, y⟩ h
    cases k with
    | zero => exact (iterO_zero h).elim
    | succ k =>
      obtain ⟨u, h1, h2, h3⟩ := iterO_elim h
      exact B40_0_ok n a0 a1_0_0 a1_0_1 c4 c7 y R  _ (fun r e => hR r (h3 _ e).symm)  (fun y' e s' hw => ⟨(k, y'), h2 _ e, Nat.lt_succ_self k, hw⟩) h1) (k, x) hx hw
theorem g40_ok (n : Nat) (a0 : List TFlowCap) (a1_0_0 : ByteArray) (a1_0_1 : Int) {t : ρ40} (R : AV → Mem → Prop) (hR : ∀ r : ρ40, t = r → ∀ u m, Ans ((intA r)) u m → R u m) : g40 n a0 a1_0_0 a1_0_1 = some t → F40 (lstA TFlowCap.E a0) (AV.fn 41 [(AV.ept [(strA a1_0_0), (intA a1_0_1)] 0)]) R := by
  unfold g40 F40
  refine imp (opP_of (show _ = some ((intA (a0.length : Int)), []) from rfl)) ?_
  refine imp ex_i64_b ?_
  exact fun hg => L40_0_ok n a0 a1_0_0 a1_0_1 (0) (a0.length : Int) R  hR n _ hg (weak_mem [] rfl rfl rfl (okW_cons (ent_lst (E := TFlowCap.E) _ false) (okW_cons (ent_clean (leV_refl _) (by simp [clean, cleans, encs_clean])) (okW_cons (.inl (leV_refl _)) (okW_cons (.inl (leV_refl _)) (okW_cons (.inl (leV_refl _)) okW_nil))))) okB_nil')
theorem sg40 {n : Nat} {a0 : List TFlowCap} {a1_0_0 : ByteArray} {a1_0_1 : Int} {t : ρ40} (h : g40 n a0 a1_0_0 a1_0_1 = some t) : Says Try.prog KK.gl 40 [(lstA TFlowCap.E a0), (AV.fn 41 [(AV.ept [(strA a1_0_0), (intA a1_0_1)] 0)])] ((intA t)) :=
  says_of_own (by first | rfl | simp [cleans, clean, encs_clean, En.cln]) (by first | rfl | simp [cleans, clean, encs_clean, En.cln]) (F40_own (lstA TFlowCap.E a0) (AV.fn 41 [(AV.ept [(strA a1_0_0), (intA a1_0_1)] 0)]) _ (g40_ok n a0 a1_0_0 a1_0_1 (Ans ((intA t))) (fun r e u m h => by rw [e]; exact h) h))
/- skyway/slot.Assign -/
theorem B19_0_0_ok (n : Nat) (a0 : ByteArray) (a2 : List TFlowCap) (c7 : Int) (x22 : List TSlotDemand) (c37 : Int) (v38 : Int) (k100003_0 : ByteArray) (k100003_1 : Int) (w15 : Int) (L90000 : List Int) (L90001 : List TSlot) {t : (Int × List Int × List TSlot) ⊕ ((Int × List Int × List TSlot) ⊕ ρ19)} (R : AV → Mem → Prop) (N0 : St → Prop) (N1 : St → Prop) (hR : ∀ r : ρ19, t = (.inr (.inr r)) → ∀ u m, Ans ((AV.tup [(lstA TSlot.E r.1), (intA r.2)])) u m → R u m) (hN0 : ∀ y : Int × List Int × List TSlot, t = (.inr (.inl y)) → ∀ s' : St, Weak KK 99 0 s' (h19_0 a0 (lstA TFlowCap.E a2) AV.nils c7 (blkV intE 90000 y.2.1) (ownV TSlot.E 90001 y.2.2) (lstA TSlotDemand.E x22) c37 y.1 [(90000, some ⟨encs intE y.2.1, 3⟩), (90001, ownB TSlot.E 49 y.2.2)]) → N0 s') (hN1 : ∀ y : Int × List Int × List TSlot, t = (.inl y) → ∀ s' : St, Weak KK 99 0 s' (h19_0_0 a0 (lstA TFlowCap.E a2) AV.nils c7 (blkV intE 90000 y.2.1) (ownV TSlot.E 90001 y.2.2) y.1 (lstA TSlotDemand.E x22) c37 v38 k100003_0 k100003_1 [(90000, some ⟨encs intE y.2.1, 3⟩), (90001, ownB TSlot.E 49 y.2.2)]) → N1 s') : S19_0_0 n a0 a2 c7 x22 c37 v38 k100003_0 k100003_1 w15 L90000 L90001 = some t → B19_0_0 a0 (lstA TFlowCap.E a2) AV.nils c7 (blkV intE 90000 L90000) (ownV TSlot.E 90001 L90001) w15 (lstA TSlotDemand.E x22) c37 v38 k100003_0 k100003_1 [(90000, some ⟨encs intE L90000, 3⟩), (90001, ownB TSlot.E 49 L90001)] R N0 N1 := by
  unfold S19_0_0 B19_0_0
  refine cond_b (fun _ => ?_) (fun _ => ?_)
  · refine imp (opP_of (show _ = some ((intA (a2.length : Int)), []) from rfl)) ?_
    refine imp ex_i64_b ?_
    refine cond_b (fun _ => ?_) (fun _ => ?_)
    · refine bind_b fun x28 h28 => ?_
      refine imp (opP_of (show _ = some ((AV.ptr 90000 (((w15 : Int).toNat) * 1 + 0)), []) from (idx_blk (E := intE) rfl h28))) ?_
      refine imp (opP_of (show _ = some ((intA x28), []) from (ldS_blk (E := intE) (l := L90000) (ty := 3) (o := 0) (by first | rfl | (simp (disch := decide) only [mpushs_nil, mpushs_cons, mget_hd, mget_tl, mget_appW_o, mget_appW_n])) (getI_some h28).2 rfl (by decide) rfl))) ?_
      refine imp ex_i64_b ?_
      refine bind_b fun x29 h29 => ?_
      refine imp (opP_of (show _ = some ((AV.ept [(intA x29.Span_From), (intA x29.Span_To), (intA x29.Many)] 0), []) from (idx_lst (E := TFlowCap.E) rfl h29))) ?_
      refine imp (opP_of (show _ = some ((AV.ept [(intA x29.Span_From), (intA x29.Span_To), (intA x29.Many)] 2), []) from rfl)) ?_
      refine imp (opP_of (show _ = some ((intA x29.Many), []) from rfl)) ?_
      refine imp ex_i64_b ?_
      refine cond_b (fun _ => ?_) (fun _ => ?_)
      · exact fun hg => hN1 _ (Option.some.inj hg).symm _ (weak_mem [(90000, 90000), (90001, 90001), (100003, 100003)] rfl rfl rfl (okW_cons (.inl (leV_refl _)) (okW_cons (ent_lst (E := TFlowCap.E) _ false) (okW_cons (.inl (leV_refl _)) (okW_cons (.inl (leV_refl _)) (okW_cons (ent_blk (E := intE) (id := 90000) (l' := L90000) rfl rfl) (okW_cons (ent_own (E := TSlot.E) (id := 90001) (l' := L90001) rfl rfl) (okW_cons (.inl (leV_refl _)) (okW_cons (.inl (leV_refl _)) (okW_cons (ent_lst (E := TSlotDemand.E) _ false) (okW_cons (.inl (leV_refl _)) (okW_cons (.inl (leV_refl _)) okW_nil))))))))))) (okB_cons (okB_cells (cs := [(strA k100003_0), (intA k100003_1)]) (ty := 44) rfl (show mget _ 100003 = _ from (by first | rfl | (simp (disch := decide) only [mpushs_nil, mpushs_cons, mget_hd, mget_tl, mget_appW_o, mget_appW_n])))) (okB_cons (okB_cells (cs := encs intE L90000) (ty := 3) (encs_clean _) (show mget _ 90000 = _ from (by first | rfl | (simp (disch := decide) only [mpushs_nil, mpushs_cons, mget_hd, mget_tl, mget_appW_o, mget_appW_n])))) (okB_cons (okB_own (E := TSlot.E) (ty := 49) (l' := L90001) rfl (show mget _ 90001 = _ from (by first | rfl | (simp (disch := decide) only [mpushs_nil, mpushs_cons, mget_hd, mget_tl, mget_appW_o, mget_appW_n])))) okB_nil'))))
      · refine cond_b (fun _ => ?_) (fun _ => ?_)
        · exact fun hg => retN rfl (hR _ (Option.some.inj hg).symm) (fzL_cons (fz_nils (E := TSlot.E) _) (fzL_cons (fz_sc _ _) fzL_nil))
        · refine imp (opP_of (show _ = some ((intA (a2.length : Int)), []) from rfl)) ?_
          refine imp ex_i64_b ?_
          refine cond_b (fun _ => ?_) (fun _ => ?_)
          · exact fun hg => retN rfl (hR _ (Option.some.inj hg).symm) (fzL_cons (fz_nils (E := TSlot.E) _) (fzL_cons (fz_sc _ _) fzL_nil))
          · refine bind_b fun x30 h30 => ?_
            refine imp (opP_of (show _ = some ((AV.ptr 90000 (((w15 : Int).toNat) * 1 + 0)), []) from (idx_blk (E := intE) rfl h30))) ?_
            refine imp (opP_of (show _ = some ((intA x30), []) from (ldS_blk (E := intE) (l := L90000) (ty := 3) (o := 0) (by first | rfl | (simp (disch := decide) only [mpushs_nil, mpushs_cons, mget_hd, mget_tl, mget_appW_o, mget_appW_n])) (getI_some h30).2 rfl (by decide) rfl))) ?_
            refine imp ex_i64_b ?_
            refine bind_b fun x31 h31 => ?_
            refine imp (opP_of (show _ = some ((AV.ptr 90000 (((w15 : Int).toNat) * 1 + 0)), []) from (idx_blk (E := intE) rfl h31))) ?_
            refine imp (storeW_el (E := intE) (l := L90000) (i := ((w15 : Int).toNat)) (o := 0) (y := (IntKind.wrap .i64 (x30 + (1)))) (ty := 3) (by kernel_rfl) (by kernel_rfl) rfl (by first | rfl | (simp (disch := decide) only [mpushs_nil, mpushs_cons, mget_hd, mget_tl, mget_appW_o, mget_appW_n])) (getI_some h31).2 rfl (by decide) rfl) ?_
            refine imp (opM_of (show _ = some ((strA k100003_0), []) from (ldS_ptr (b := ⟨[(strA k100003_0), (intA k100003_1)], 44⟩) (by first | rfl | (rw [look'_mem (by first | rfl | simp [topId_blk] | simp [topId])]; first | rfl | (simp (disch := decide) only [mpushs_nil, mpushs_cons, mget_hd, mget_tl, mget_appW_o, mget_appW_n]))) rfl))) ?_
            refine imp exStr_b ?_
            refine imp (opM_of (show _ = some ((intA k100003_1), []) from (ldS_ptr (b := ⟨[(strA k100003_0), (intA k100003_1)], 44⟩) (by first | rfl | (rw [look'_mem (by first | rfl | simp [topId_blk] | simp [topId])]; first | rfl | (simp (disch := decide) only [mpushs_nil, mpushs_cons, mget_hd, mget_tl, mget_appW_o, mget_appW_n]))) rfl))) ?_
            refine imp ex_i64_b ?_
            refine bind_b fun x32 h32 => ?_
            refine imp (opM_of (show _ = some ((AV.ept [(intA x32.Span_From), (intA x32.Span_To), (intA x32.Many)] 0), []) from (idx_lst (E := TFlowCap.E) rfl h32))) ?_
            refine imp (opM_of (show _ = some ((AV.ept [(intA x32.Span_From), (intA x32.Span_To), (intA x32.Many)] 0), []) from rfl)) ?_
            refine imp (opM_of (show _ = some ((AV.ept [(intA x32.Span_From), (intA x32.Span_To), (intA x32.Many)] 0), []) from rfl)) ?_
            refine imp (opM_of (show _ = some ((intA x32.Span_From), []) from rfl)) ?_
            refine imp ex_i64_b ?_
            refine imp (opM_of (show _ = some ((intA (if x32.Span_From > k100003_1 then x32.Span_From else k100003_1)), []) from (by kernel_rfl))) ?_
            refine imp ex_i64_b ?_
            refine imp (opM_of (show _ = some ((AV.agg [(strA k100003_0), (strA a0), (intA (if x32.Span_From > k100003_1 then x32.Span_From else k100003_1))]), []) from rfl)) ?_
            refine imp (opM_of (show _ = some ((blkV TSlot.E 200049 ([(⟨k100003_0, a0, (if x32.Span_From > k100003_1 then x32.Span_From else k100003_1)⟩ : TSlot)] : List TSlot)), [(200049, some ⟨encs TSlot.E ([(⟨k100003_0, a0, (if x32.Span_From > k100003_1 then x32.Span_From else k100003_1)⟩ : TSlot)] : List TSlot), 49⟩)]) from rfl)) ?_
            refine bind_b fun x33 h33 => ?_
            refine imp (opM_of (show _ = some ((ownV TSlot.E 200050 (L90001 ++ ([(⟨k100003_0, a0, (if x32.Span_From > k100003_1 then x32.Span_From else k100003_1)⟩ : TSlot)] : List TSlot))), (appW TSlot.E 200050 90001 49 L90001 ([(⟨k100003_0, a0, (if x32.Span_From > k100003_1 then x32.Span_From else k100003_1)⟩ : TSlot)] : List TSlot))) from (app_own (E := TSlot.E) (l' := L90001) (xs := ([(⟨k100003_0, a0, (if x32.Span_From > k100003_1 then x32.Span_From else k100003_1)⟩ : TSlot)] : List TSlot)) rfl rfl (cellsOf_blk (E := TSlot.E) (ty := 49) rfl rfl (by first | rfl | (rw [look'_mem (by first | rfl | simp [topId_blk] | simp [topId])]; first | rfl | (simp (disch := decide) only [mpushs_nil, mpushs_cons, mget_hd, mget_tl, mget_appW_o, mget_appW_n])))) (by simp) rfl (fun hne => look'_own hne rfl (by first | rfl | (simp (disch := decide) only [mpushs_nil, mpushs_cons, mget_hd, mget_tl, mget_appW_o, mget_appW_n]))) h33))) ?_
            refine imp (chk_of (by rcases (L90001) with _ | ⟨_, _⟩ <;> kernel_rfl)) ?_
            exact fun hg => hN0 _ (Option.some.inj hg).symm _ (weak_mem [(90000, 90000), (90001, 200050)] rfl rfl rfl (okW_cons (.inl (leV_refl _)) (okW_cons (ent_lst (E := TFlowCap.E) _ false) (okW_cons (.inl (leV_refl _)) (okW_cons (.inl (leV_refl _)) (okW_cons (ent_blk (E := intE) (id := 90000) (l' := (L90000.set ((w15 : Int).toNat) (IntKind.wrap .i64 (x30 + (1))))) (by first | rfl | omega | (simp; done) | (simp; omega)) rfl) (okW_cons (ent_own (E := TSlot.E) (id := 200050) (l' := (L90001 ++ ([(⟨k100003_0, a0, (if x32.Span_From > k100003_1 then x32.Span_From else k100003_1)⟩ : TSlot)] : List TSlot))) rfl rfl) (okW_cons (ent_lst (E := TSlotDemand.E) _ false) (okW_cons (.inl (leV_refl _)) (okW_cons (.inl (leV_refl _)) okW_nil))))))))) (okB_cons (okB_cells (cs := encs intE (L90000.set ((w15 : Int).toNat) (IntKind.wrap .i64 (x30 + (1))))) (ty := 3) (encs_clean _) (show mget _ 90000 = _ from (by first | rfl | (simp (disch := decide) only [mpushs_nil, mpushs_cons, mget_hd, mget_tl, mget_appW_o, mget_appW_n])))) (okB_cons (okB_own (E := TSlot.E) (ty := 49) (l' := (L90001 ++ ([(⟨k100003_0, a0, (if x32.Span_From > k100003_1 then x32.Span_From else k100003_1)⟩ : TSlot)] : List TSlot))) rfl (show mget _ 200050 = _ from (by first | rfl | (simp (disch := decide) only [mpushs_nil, mpushs_cons, mget_hd, mget_tl, mget_appW_o, mget_appW_n])))) okB_nil')))
    · refine cond_b (fun _ => ?_) (fun _ => ?_)
      · exact fun hg => retN rfl (hR _ (Option.some.inj hg).symm) (fzL_cons (fz_nils (E := TSlot.E) _) (fzL_cons (fz_sc _ _) fzL_nil))
      · refine imp (opP_of (show _ = some ((intA (a2.length : Int)), []) from rfl)) ?_
        refine imp ex_i64_b ?_
        refine cond_b (fun _ => ?_) (fun _ => ?_)
        · exact fun hg => retN rfl (hR _ (Option.some.inj hg).symm) (fzL_cons (fz_nils (E := TSlot.E) _) (fzL_cons (fz_sc _ _) fzL_nil))
        · refine bind_b fun x34 h34 => ?_
          refine imp (opP_of (show _ = some ((AV.ptr 90000 (((w15 : Int).toNat) * 1 + 0)), []) from (idx_blk (E := intE) rfl h34))) ?_
          refine imp (opP_of (show _ = some ((intA x34), []) from (ldS_blk (E := intE) (l := L90000) (ty := 3) (o := 0) (by first | rfl | (simp (disch := decide) only [mpushs_nil, mpushs_cons, mget_hd, mget_tl, mget_appW_o, mget_appW_n])) (getI_some h34).2 rfl (by decide) rfl))) ?_
          refine imp ex_i64_b ?_
          refine bind_b fun x35 h35 => ?_
          refine imp (opP_of (show _ = some ((AV.ptr 90000 (((w15 : Int).toNat) * 1 + 0)), []) from (idx_blk (E := intE) rfl h35))) ?_
          refine imp (storeW_el (E := intE) (l := L90000) (i := ((w15 : Int).toNat)) (o := 0) (y := (IntKind.wrap .i64 (x34 + (1)))) (ty := 3) (by kernel_rfl) (by kernel_rfl) rfl (by first | rfl | (simp (disch := decide) only [mpushs_nil, mpushs_cons, mget_hd, mget_tl, mget_appW_o, mget_appW_n])) (getI_some h35).2 rfl (by decide) rfl) ?_
          refine imp (opM_of (show _ = some ((strA k100003_0), []) from (ldS_ptr (b := ⟨[(strA k100003_0), (intA k100003_1)], 44⟩) (by first | rfl | (rw [look'_mem (by first | rfl | simp [topId_blk] | simp [topId])]; first | rfl | (simp (disch := decide) only [mpushs_nil, mpushs_cons, mget_hd, mget_tl, mget_appW_o, mget_appW_n]))) rfl))) ?_
          refine imp exStr_b ?_
          refine imp (opM_of (show _ = some ((intA k100003_1), []) from (ldS_ptr (b := ⟨[(strA k100003_0), (intA k100003_1)], 44⟩) (by first | rfl | (rw [look'_mem (by first | rfl | simp [topId_blk] | simp [topId])]; first | rfl | (simp (disch := decide) only [mpushs_nil, mpushs_cons, mget_hd, mget_tl, mget_appW_o, mget_appW_n]))) rfl))) ?_
          refine imp ex_i64_b ?_
          refine bind_b fun x36 h36 => ?_
          refine imp (opM_of (show _ = some ((AV.ept [(intA x36.Span_From), (intA x36.Span_To), (intA x36.Many)] 0), []) from (idx_lst (E := TFlowCap.E) rfl h36))) ?_
          refine imp (opM_of (show _ = some ((AV.ept [(intA x36.Span_From), (intA x36.Span_To), (intA x36.Many)] 0), []) from rfl)) ?_
          refine imp (opM_of (show _ = some ((AV.ept [(intA x36.Span_From), (intA x36.Span_To), (intA x36.Many)] 0), []) from rfl)) ?_
          refine imp (opM_of (show _ = some ((intA x36.Span_From), []) from rfl)) ?_
          refine imp ex_i64_b ?_
          refine imp (opM_of (show _ = some ((intA (if x36.Span_From > k100003_1 then x36.Span_From else k100003_1)), []) from (by kernel_rfl))) ?_
          refine imp ex_i64_b ?_
          refine imp (opM_of (show _ = some ((AV.agg [(strA k100003_0), (strA a0), (intA (if x36.Span_From > k100003_1 then x36.Span_From else k100003_1))]), []) from rfl)) ?_
          refine imp (opM_of (show _ = some ((blkV TSlot.E 200049 ([(⟨k100003_0, a0, (if x36.Span_From > k100003_1 then x36.Span_From else k100003_1)⟩ : TSlot)] : List TSlot)), [(200049, some ⟨encs TSlot.E ([(⟨k100003_0, a0, (if x36.Span_From > k100003_1 then x36.Span_From else k100003_1)⟩ : TSlot)] : List TSlot), 49⟩)]) from rfl)) ?_
          refine bind_b fun x37 h37 => ?_
          refine imp (opM_of (show _ = some ((ownV TSlot.E 200050 (L90001 ++ ([(⟨k100003_0, a0, (if x36.Span_From > k100003_1 then x36.Span_From else k100003_1)⟩ : TSlot)] : List TSlot))), (appW TSlot.E 200050 90001 49 L90001 ([(⟨k100003_0, a0, (if x36.Span_From > k100003_1 then x36.Span_From else k100003_1)⟩ : TSlot)] : List TSlot))) from (app_own (E := TSlot.E) (l' := L90001) (xs := ([(⟨k100003_0, a0, (if x36.Span_From > k100003_1 then x36.Span_From else k100003_1)⟩ : TSlot)] : List TSlot)) rfl rfl (cellsOf_blk (E := TSlot.E) (ty := 49) rfl rfl (by first | rfl | (rw [look'_mem (by first | rfl | simp [topId_blk] | simp [topId])]; first | rfl | (simp (disch := decide) only [mpushs_nil, mpushs_cons, mget_hd, mget_tl, mget_appW_o, mget_appW_n])))) (by simp) rfl (fun hne => look'_own hne rfl (by first | rfl | (simp (disch := decide) only [mpushs_nil, mpushs_cons, mget_hd, mget_tl, mget_appW_o, mget_appW_n]))) h37))) ?_
          refine imp (chk_of (by rcases (L90001) with _ | ⟨_, _⟩ <;> kernel_rfl)) ?_
          exact fun hg => hN0 _ (Option.some.inj hg).symm _ (weak_mem [(90000, 90000), (90001, 200050)] rfl rfl rfl (okW_cons (.inl (leV_refl _)) (okW_cons (ent_lst (E := TFlowCap.E) _ false) (okW_cons (.inl (leV_refl _)) (okW_cons (.inl (leV_refl _)) (okW_cons (ent_blk (E := intE) (id := 90000) (l' := (L90000.set ((w15 : Int).toNat) (IntKind.wrap .i64 (x34 + (1))))) (by first | rfl | omega | (simp; done) | (simp; omega)) rfl) (okW_cons (ent_own (E := TSlot.E) (id := 200050) (l' := (L90001 ++ ([(⟨k100003_0, a0, (if x36.Span_From > k100003_1 then x36.Span_From else k100003_1)⟩ : TSlot)] : List TSlot))) rfl rfl) (okW_cons (ent_lst (E := TSlotDemand.E) _ false) (okW_cons (.inl (leV_refl _)) (okW_cons (.inl (leV_refl _)) okW_nil))))))))) (okB_cons (okB_cells (cs := encs intE (L90000.set ((w15 : Int).toNat) (IntKind.wrap .i64 (x34 + (1))))) (ty := 3) (encs_clean _) (show mget _ 90000 = _ from (by first | rfl | (simp (disch := decide) only [mpushs_nil, mpushs_cons, mget_hd, mget_tl, mget_appW_o, mget_appW_n])))) (okB_cons (okB_own (E := TSlot.E) (ty := 49) (l' := (L90001 ++ ([(⟨k100003_0, a0, (if x36.Span_From > k100003_1 then x36.Span_From else k100003_1)⟩ : TSlot)] : List TSlot))) rfl (show mget _ 200050 = _ from (by first | rfl | (simp (disch := decide) only [mpushs_nil, mpushs_cons, mget_hd, mget_tl, mget_appW_o, mget_appW_n])))) okB_nil')))
  · refine cond_b (fun _ => ?_) (fun _ => ?_)
    · exact fun hg => retN rfl (hR _ (Option.some.inj hg).symm) (fzL_cons (fz_nils (E := TSlot.E) _) (fzL_cons (fz_sc _ _) fzL_nil))
    · refine imp (opP_of (show _ = some ((intA (a2.length : Int)), []) from rfl)) ?_
      refine imp ex_i64_b ?_
      refine cond_b (fun _ => ?_) (fun _ => ?_)
      · exact fun hg => retN rfl (hR _ (Option.some.inj hg).symm) (fzL_cons (fz_nils (E := TSlot.E) _) (fzL_cons (fz_sc _ _) fzL_nil))
      · refine bind_b fun x38 h38 => ?_
        refine imp (opP_of (show _ = some ((AV.ptr 90000 (((w15 : Int).toNat) * 1 + 0)), []) from (idx_blk (E := intE) rfl h38))) ?_
        refine imp (opP_of (show _ = some ((intA x38), []) from (ldS_blk (E := intE) (l := L90000) (ty := 3) (o := 0) (by first | rfl | (simp (disch := decide) only [mpushs_nil, mpushs_cons, mget_hd, mget_tl, mget_appW_o, mget_appW_n])) (getI_some h38).2 rfl (by decide) rfl))) ?_
        refine imp ex_i64_b ?_
        refine bind_b fun x39 h39 => ?_
        refine imp (opP_of (show _ = some ((AV.ptr 90000 (((w15 : Int).toNat) * 1 + 0)), []) from (idx_blk (E := intE) rfl h39))) ?_
        refine imp (storeW_el (E := intE) (l := L90000) (i := ((w15 : Int).toNat)) (o := 0) (y := (IntKind.wrap .i64 (x38 + (1)))) (ty := 3) (by kernel_rfl) (by kernel_rfl) rfl (by first | rfl | (simp (disch := decide) only [mpushs_nil, mpushs_cons, mget_hd, mget_tl, mget_appW_o, mget_appW_n])) (getI_some h39).2 rfl (by decide) rfl) ?_
        refine imp (opM_of (show _ = some ((strA k100003_0), []) from (ldS_ptr (b := ⟨[(strA k100003_0), (intA k100003_1)], 44⟩) (by first | rfl | (rw [look'_mem (by first | rfl | simp [topId_blk] | simp [topId])]; first | rfl | (simp (disch := decide) only [mpushs_nil, mpushs_cons, mget_hd, mget_tl, mget_appW_o, mget_appW_n]))) rfl))) ?_
        refine imp exStr_b ?_
        refine imp (opM_of (show _ = some ((intA k100003_1), []) from (ldS_ptr (b := ⟨[(strA k100003_0), (intA k100003_1)], 44⟩) (by first | rfl | (rw [look'_mem (by first | rfl | simp [topId_blk] | simp [topId])]; first | rfl | (simp (disch := decide) only [mpushs_nil, mpushs_cons, mget_hd, mget_tl, mget_appW_o, mget_appW_n]))) rfl))) ?_
        refine imp ex_i64_b ?_
        refine bind_b fun x40 h40 => ?_
        refine imp (opM_of (show _ = some ((AV.ept [(intA x40.Span_From), (intA x40.Span_To), (intA x40.Many)] 0), []) from (idx_lst (E := TFlowCap.E) rfl h40))) ?_
        refine imp (opM_of (show _ = some ((AV.ept [(intA x40.Span_From), (intA x40.Span_To), (intA x40.Many)] 0), []) from rfl)) ?_
        refine imp (opM_of (show _ = some ((AV.ept [(intA x40.Span_From), (intA x40.Span_To), (intA x40.Many)] 0), []) from rfl)) ?_
        refine imp (opM_of (show _ = some ((intA x40.Span_From), []) from rfl)) ?_
        refine imp ex_i64_b ?_
        refine imp (opM_of (show _ = some ((intA (if x40.Span_From > k100003_1 then x40.Span_From else k100003_1)), []) from (by kernel_rfl))) ?_
        refine imp ex_i64_b ?_
        refine imp (opM_of (show _ = some ((AV.agg [(strA k100003_0), (strA a0), (intA (if x40.Span_From > k100003_1 then x40.Span_From else k100003_1))]), []) from rfl)) ?_
        refine imp (opM_of (show _ = some ((blkV TSlot.E 200049 ([(⟨k100003_0, a0, (if x40.Span_From > k100003_1 then x40.Span_From else k100003_1)⟩ : TSlot)] : List TSlot)), [(200049, some ⟨encs TSlot.E ([(⟨k100003_0, a0, (if x40.Span_From > k100003_1 then x40.Span_From else k100003_1)⟩ : TSlot)] : List TSlot), 49⟩)]) from rfl)) ?_
        refine bind_b fun x41 h41 => ?_
        refine imp (opM_of (show _ = some ((ownV TSlot.E 200050 (L90001 ++ ([(⟨k100003_0, a0, (if x40.Span_From > k100003_1 then x40.Span_From else k100003_1)⟩ : TSlot)] : List TSlot))), (appW TSlot.E 200050 90001 49 L90001 ([(⟨k100003_0, a0, (if x40.Span_From > k100003_1 then x40.Span_From else k100003_1)⟩ : TSlot)] : List TSlot))) from (app_own (E := TSlot.E) (l' := L90001) (xs := ([(⟨k100003_0, a0, (if x40.Span_From > k100003_1 then x40.Span_From else k100003_1)⟩ : TSlot)] : List TSlot)) rfl rfl (cellsOf_blk (E := TSlot.E) (ty := 49) rfl rfl (by first | rfl | (rw [look'_mem (by first | rfl | simp [topId_blk] | simp [topId])]; first | rfl | (simp (disch := decide) only [mpushs_nil, mpushs_cons, mget_hd, mget_tl, mget_appW_o, mget_appW_n])))) (by simp) rfl (fun hne => look'_own hne rfl (by first | rfl | (simp (disch := decide) only [mpushs_nil, mpushs_cons, mget_hd, mget_tl, mget_appW_o, mget_appW_n]))) h41))) ?_
        refine imp (chk_of (by rcases (L90001) with _ | ⟨_, _⟩ <;> kernel_rfl)) ?_
        exact fun hg => hN0 _ (Option.some.inj hg).symm _ (weak_mem [(90000, 90000), (90001, 200050)] rfl rfl rfl (okW_cons (.inl (leV_refl _)) (okW_cons (ent_lst (E := TFlowCap.E) _ false) (okW_cons (.inl (leV_refl _)) (okW_cons (.inl (leV_refl _)) (okW_cons (ent_blk (E := intE) (id := 90000) (l' := (L90000.set ((w15 : Int).toNat) (IntKind.wrap .i64 (x38 + (1))))) (by first | rfl | omega | (simp; done) | (simp; omega)) rfl) (okW_cons (ent_own (E := TSlot.E) (id := 200050) (l' := (L90001 ++ ([(⟨k100003_0, a0, (if x40.Span_From > k100003_1 then x40.Span_From else k100003_1)⟩ : TSlot)] : List TSlot))) rfl rfl) (okW_cons (ent_lst (E := TSlotDemand.E) _ false) (okW_cons (.inl (leV_refl _)) (okW_cons (.inl (leV_refl _)) okW_nil))))))))) (okB_cons (okB_cells (cs := encs intE (L90000.set ((w15 : Int).toNat) (IntKind.wrap .i64 (x38 + (1))))) (ty := 3) (encs_clean _) (show mget _ 90000 = _ from (by first | rfl | (simp (disch := decide) only [mpushs_nil, mpushs_cons, mget_hd, mget_tl, mget_appW_o, mget_appW_n])))) (okB_cons (okB_own (E := TSlot.E) (ty := 49) (l' := (L90001 ++ ([(⟨k100003_0, a0, (if x40.Span_From > k100003_1 then x40.Span_From else k100003_1)⟩ : TSlot)] : List TSlot))) rfl (show mget _ 200050 = _ from (by first | rfl | (simp (disch := decide) only [mpushs_nil, mpushs_cons, mget_hd, mget_tl, mget_appW_o, mget_appW_n])))) okB_nil')))
theorem L19_0_0_ok (n : Nat) (a0 : ByteArray) (a2 : List TFlowCap) (c7 : Int) (x22 : List TSlotDemand) (c37 : Int) (v38 : Int) (k100003_0 : ByteArray) (k100003_1 : Int) {t : ((Int × List Int × List TSlot) ⊕ ρ19)} (R : AV → Mem → Prop) (N0 : St → Prop) (hR : ∀ r : ρ19, t = (.inr r) → ∀ u m, Ans ((AV.tup [(lstA TSlot.E r.1), (intA r.2)])) u m → R u m) (hN0 : ∀ y : Int × List Int × List TSlot, t = (.inl y) → ∀ s' : St, Weak KK 99 0 s' (h19_0 a0 (lstA TFlowCap.E a2) AV.nils c7 (blkV intE 90000 y.2.1) (ownV TSlot.E 90001 y.2.2) (lstA TSlotDemand.E x22) c37 y.1 [(90000, some ⟨encs intE y.2.1, 3⟩), (90001, ownB TSlot.E 49 y.2.2)]) → N0 s') (k : Nat) (x : Int × List Int × List TSlot) (hx : iterO (fun y : Int × List Int × List TSlot => S19_0_0 n a0 a2 c7 x22 c37 v38 k100003_0 k100003_1 y.1 y.2.1 y.2.2) k x = some t) {s : St} (hw : Weak KK 99 0 s (h19_0_0 a0 (lstA TFlowCap.E a2) AV.nils c7 (blkV intE 90000 x.2.1) (ownV TSlot.E 90001 x.2.2) x.1 (lstA TSlotDemand.E x22) c37 v38 k100003_0 k100003_1 [(90000, some ⟨encs intE x.2.1, 3⟩), (90001, ownB TSlot.E 49 x.2.2)])) : Tri Try.prog KK 99 0 (.loop c19_0_0) s (q19_0_0 R N0) :=
  L19_0_0 R N0 (σ := Nat × (Int × List Int × List TSlot)) (fun z => iterO (fun y : Int × List Int × List TSlot => S19_0_0 n a0 a2 c7 x22 c37 v38 k100003_0 k100003_1 y.1 y.2.1 y.2.2) z.1 z.2 = some t) (fun z => a0) (fun z => (lstA TFlowCap.E a2)) (fun z => AV.nils) (fun z => c7) (fun z => (blkV intE 90000 z.2.2.1)) (fun z => (ownV TSlot.E 90001 z.2.2.2)) (fun z => z.2.1) (fun z => (lstA TSlotDemand.E x22)) (fun z => c37) (fun z => v38) (fun z => k100003_0) (fun z => k100003_1) (fun z => [(90000, some ⟨encs intE z.2.2.1, 3⟩), (90001, ownB TSlot.E 49 z.2.2.2)]) (fun z => z.1) (by
    rintro ⟨k, y⟩ h
    cases k with
    | zero => exact (iterO_zero h).elim
    | succ k =>
      obtain ⟨u, h1, h2, h3⟩ := iterO_elim h
      exact B19_0_0_ok n a0 a2 c7 x22 c37 v38 k100003_0 k100003_1 y.1 y.2.1 y.2.2 R N0 _ (fun r e => hR r (h3 _ e).symm) (fun y' e => hN0 y' (h3 _ e).symm) (fun y' e s' hw => ⟨(k, y'), h2 _ e, Nat.lt_succ_self k, hw⟩) h1) (k, x) hx hw
theorem B19_0_ok (n : Nat) (a0 : ByteArray) (a2 : List TFlowCap) (c7 : Int) (x22 : List TSlotDemand) (c37 : Int) (v38 : Int) (L90000 : List Int) (L90001 : List TSlot) {t : (Int × List Int × List TSlot) ⊕ ρ19} (R : AV → Mem → Prop) (N0 : St → Prop) (hR : ∀ r : ρ19, t = (.inr r) → ∀ u m, Ans ((AV.tup [(lstA TSlot.E r.1), (intA r.2)])) u m → R u m) (hN0 : ∀ y : Int × List Int × List TSlot, t = (.inl y) → ∀ s' : St, Weak KK 99 0 s' (h19_0 a0 (lstA TFlowCap.E a2) AV.nils c7 (blkV intE 90000 y.2.1) (ownV TSlot.E 90001 y.2.2) (lstA TSlotDemand.E x22) c37 y.1 [(90000, some ⟨encs intE y.2.1, 3⟩), (90001, ownB TSlot.E 49 y.2.2)]) → N0 s') : S19_0 n a0 a2 c7 x22 c37 v38 L90000 L90001 = some t → B19_0 a0 (lstA TFlowCap.E a2) AV.nils c7 (blkV intE 90000 L90000) (ownV TSlot.E 90001 L90001) (lstA TSlotDemand.E x22) c37 v38 [(90000, some ⟨encs intE L90000, 3⟩), (90001, ownB TSlot.E 49 L90001)] R N0 := by
  unfold S19_0 B19_0
  refine cond_b (fun _ => ?_) (fun _ => ?_)
  · refine bind_b fun x24 h24 => ?_
    refine imp (opP_of (show _ = some ((AV.ept [(strA x24.Call), (intA x24.Time)] 0), []) from (idx_lst (E := TSlotDemand.E) rfl h24))) ?_
    refine imp (opP_of (show _ = some ((AV.agg [(strA x24.Call), (intA x24.Time)]), []) from rfl)) ?_
    refine imp exA2_b ?_
    refine imp exStr_b ?_
    refine imp ex_i64_b ?_
    refine bind_b fun x27 h27 => ?_
    refine imp (callQ_pure (pure_snapN (snL_cons (sn_lst (E := TFlowCap.E) _ _ false) (snL_cons (sn_fn _ _ (snL_cons (sn_ptr _ (ty := 44) (us := [(strA x24.Call), (intA x24.Time)]) (by first | rfl | (simp (disch := decide) only [mpushs_nil, mpushs_cons, mget_hd, mget_tl, mget_appW_o, mget_appW_n])) (snL_cons (sn_sc _ _) (snL_cons (sn_sc _ _) snL_nil))) snL_nil)) snL_nil)) (sg40 h27) rfl)) ?_
    refine imp ex_i64_b ?_
    exact fun hg => L19_0_0_ok n a0 a2 c7 x22 c37 v38 x24.Call x24.Time R N0 hR hN0 n _ hg (weak_mem [(90000, 90000), (90001, 90001), (100003, 100003)] rfl rfl rfl (okW_cons (.inl (leV_refl _)) (okW_cons (ent_lst (E := TFlowCap.E) _ false) (okW_cons (.inl (leV_refl _)) (okW_cons (.inl (leV_refl _)) (okW_cons (ent_blk (E := intE) (id := 90000) (l' := L90000) rfl rfl) (okW_cons (ent_own (E := TSlot.E) (id := 90001) (l' := L90001) rfl rfl) (okW_cons (.inl (leV_refl _)) (okW_cons (.inl (leV_refl _)) (okW_cons (ent_lst (E := TSlotDemand.E) _ false) (okW_cons (.inl (leV_refl _)) (okW_cons (.inl (leV_refl _)) okW_nil))))))))))) (okB_cons (okB_cells (cs := [(strA x24.Call), (intA x24.Time)]) (ty := 44) rfl (show mget _ 100003 = _ from (by first | rfl | (simp (disch := decide) only [mpushs_nil, mpushs_cons, mget_hd, mget_tl, mget_appW_o, mget_appW_n])))) (okB_cons (okB_cells (cs := encs intE L90000) (ty := 3) (encs_clean _) (show mget _ 90000 = _ from (by first | rfl | (simp (disch := decide) only [mpushs_nil, mpushs_cons, mget_hd, mget_tl, mget_appW_o, mget_appW_n])))) (okB_cons (okB_own (E := TSlot.E) (ty := 49) (l' := L90001) rfl (show mget _ 90001 = _ from (by first | rfl | (simp (disch := decide) only [mpushs_nil, mpushs_cons, mget_hd, mget_tl, mget_appW_o, mget_appW_n])))) okB_nil'))))
  · exact fun hg => retN rfl (hR _ (Option.some.inj hg).symm) (fzL_cons (fz_own (E := TSlot.E) (ty := 49) (l' := L90001) _ rfl (by first | rfl | (simp (disch := decide) only [mpushs_nil, mpushs_cons, mget_hd, mget_tl, mget_appW_o, mget_appW_n]))) (fzL_cons (fz_sc _ _) fzL_nil))
theorem L19_0_ok (n : Nat) (a0 : ByteArray) (a2 : List TFlowCap) (c7 : Int) (x22 : List TSlotDemand) (c37 : Int) {t : ρ19} (R : AV → Mem → Prop) (hR : ∀ r : ρ19, t = r → ∀ u m, Ans ((AV.tup [(lstA TSlot.E r.1), (intA r.2)])) u m → R u m) (k : Nat) (x : Int × List Int × List TSlot) (hx : iterO (fun y : Int × List Int × List TSlot => S19_0 n a0 a2 c7 x22 c37 y.1 y.2.1 y.2.2) k x = some t) {s : St} (hw : Weak KK 99 0 s (h19_0 a0 (lstA TFlowCap.E a2) AV.nils c7 (blkV intE 90000 x.2.1) (ownV TSlot.E 90001 x.2.2) (lstA TSlotDemand.E x22) c37 x.1 [(90000, some ⟨encs intE x.2.1, 3⟩), (90001, ownB TSlot.E 49 x.2.2)])) : Tri Try.prog KK 99 0 (.loop c19_0) s (q19_0 R ) :=
  L19_0 R  (σ := Nat × (Int × List Int × List TSlot)) (fun z => iterO (fun y : Int × List Int × List TSlot => S19_0 n a0 a2 c7 x22 c37 y.1 y.2.1 y.2.2) z.1 z.2 = some t) (fun z => a0) (fun z => (lstA TFlowCap.E a2)) (fun z => AV.nils) (fun z => c7) (fun z => (blkV intE 90000 z.2.2.1)) (fun z => (ownV TSlot.E 90001 z.2.2.2)) (fun z => (lstA TSlotDemand.E x22)) (fun z => c37) (fun z => z.2.1) (fun z => [(90000, some ⟨encs intE z.2.2.1, 3⟩), (90001, ownB TSlot.E 49 z.2.2.2)]) (fun z => z.1) (by
    rintro ⟨k, y⟩ h
    cases k with
    | zero => exact (iterO_zero h).elim
    | succ k =>
      obtain ⟨u, h1, h2, h3⟩ := iterO_elim h
      exact B19_0_ok n a0 a2 c7 x22 c37 y.1 y.2.1 y.2.2 R  _ (fun r e => hR r (h3 _ e).symm)  (fun y' e s' hw => ⟨(k, y'), h2 _ e, Nat.lt_succ_self k, hw⟩) h1) (k, x) hx hw
theorem g19_ok (n : Nat) (a0 : ByteArray) (a1 : List TSlotDemand) (a2 : List TFlowCap) {t : ρ19} (R : AV → Mem → Prop) (hR : ∀ r : ρ19, t = r → ∀ u m, Ans ((AV.tup [(lstA TSlot.E r.1), (intA r.2)])) u m → R u m) : g19 n a0 a1 a2 = some t → F19 a0 (lstA TSlotDemand.E a1) (lstA TFlowCap.E a2) R := by
  unfold g19 F19
  refine bind_b fun x4 h4 => ?_
  refine imp (callQ_says (sg34 h4)) ?_
  refine imp exB_b ?_
  refine cond_b (fun _ => ?_) (fun _ => ?_)
  · exact fun hg => retN rfl (hR _ (Option.some.inj hg).symm) (fzL_cons (fz_nils (E := TSlot.E) _) (fzL_cons (fz_sc _ _) fzL_nil))
  · refine bind_b fun x12 h12 => ?_
    refine imp (callQ_says (sg35 h12)) ?_
    refine imp ex_i64_b ?_
    refine cond_b (fun _ => ?_) (fun _ => ?_)
    · exact fun hg => retN rfl (hR _ (Option.some.inj hg).symm) (fzL_cons (fz_nils (E := TSlot.E) _) (fzL_cons (fz_sc _ _) fzL_nil))
    · refine bind_b fun x15 h15 => ?_
      refine imp (callQ_says (sg10 h15)) ?_
      refine imp ex_i64_b ?_
      refine cond_b (fun _ => ?_) (fun _ => ?_)
      · exact fun hg => retN rfl (hR _ (Option.some.inj hg).symm) (fzL_cons (fz_nils (E := TSlot.E) _) (fzL_cons (fz_sc _ _) fzL_nil))
      · refine bind_b fun x16 h16 => ?_
        refine imp (callW_D (show PureD _ _ _ _ _ _ (ownV TSlotDemand.E 205 a1) [(205, ownB TSlotDemand.E 44 a1)] from cloneC21 h16)) ?_
        refine bind_b fun x22 h22 => ?_
        have lh22 := sortO_len h22
        refine imp (callW_sortV (E := TSlotDemand.E) (ty := 44) (l := a1) (cmp := (fun x y => g37 n x y)) rfl TSlotDemand.ok sorts36 none36 plain36 rfl (by first | rfl | (simp (disch := decide) only [mpushs_nil, mpushs_cons, mget_hd, mget_tl, mget_appW_o, mget_appW_n])) capsOk_nil (fun x y z h => sg37 h) h22) ?_
        refine imp exT0_b ?_
        refine imp (opP_of (show _ = some ((intA (a2.length : Int)), []) from rfl)) ?_
        refine imp ex_i64_b ?_
        refine bind_b fun x23 h23 => ?_
        refine imp (opN_of (show _ = some ((blkV intE 337 (List.replicate x23 (0))), [(337, some ⟨encs intE (List.replicate x23 (0)), 3⟩)]) from (mks_ok (E := intE) (z := (0)) rfl rfl h23))) ?_
        refine imp (opP_of (show _ = some ((intA (x22.length : Int)), []) from (len_ownL (by first | rfl | omega | (simp; done) | (simp; omega))))) ?_
        refine imp ex_i64_b ?_
        exact fun hg => L19_0_ok n a0 a2 (0) x22 (x22.length : Int) R  hR n _ hg (weak_mem [(90000, 337), (90001, 89501)] rfl rfl rfl (okW_cons (.inl (leV_refl _)) (okW_cons (ent_lst (E := TFlowCap.E) _ false) (okW_cons (.inl (leV_refl _)) (okW_cons (.inl (leV_refl _)) (okW_cons (ent_blk (E := intE) (id := 337) (l' := (List.replicate x23 (0))) rfl rfl) (okW_cons ent_nils_own (okW_cons (ent_own_frz (E := TSlotDemand.E) (ty := 44) (l' := x22) (by first | rfl | omega | (simp; done) | (simp; omega)) (by first | rfl | (simp (disch := decide) only [mpushs_nil, mpushs_cons, mget_hd, mget_tl, mget_appW_o, mget_appW_n])) rfl) (okW_cons (.inl (leV_refl _)) (okW_cons (.inl (leV_refl _)) okW_nil))))))))) (okB_cons (okB_cells (cs := encs intE (List.replicate x23 (0))) (ty := 3) (encs_clean _) (show mget _ 337 = _ from (by first | rfl | (simp (disch := decide) only [mpushs_nil, mpushs_cons, mget_hd, mget_tl, mget_appW_o, mget_appW_n])))) (okB_cons okB_nil okB_nil')))
theorem sg19 {n : Nat} {a0 : ByteArray} {a1 : List TSlotDemand} {a2 : List TFlowCap} {t : ρ19} (h : g19 n a0 a1 a2 = some t) : Says Try.prog KK.gl 19 [(strA a0), (lstA TSlotDemand.E a1), (lstA TFlowCap.E a2)] ((AV.tup [(lstA TSlot.E t.1), (intA t.2)])) :=
  says_of_own (by first | rfl | simp [cleans, clean, encs_clean, En.cln]) (by first | rfl | simp [cleans, clean, encs_clean, En.cln]) (F19_own a0 (lstA TSlotDemand.E a1) (lstA TFlowCap.E a2) _ (g19_ok n a0 a1 a2 (Ans ((AV.tup [(lstA TSlot.E t.1), (intA t.2)]))) (fun r e u m h => by rw [e]; exact h) h))
end Go.Proofs.Ytfhcciepaangiaa
