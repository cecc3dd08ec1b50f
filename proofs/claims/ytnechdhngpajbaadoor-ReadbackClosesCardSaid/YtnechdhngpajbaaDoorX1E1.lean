/- Plain functional programs out of the program's functions, with proofs that the functions compute them; printed by wip/Ext.lean.txt. -/
import Derived.Test.YtnechdhngpajbaaDoorX1G
import Derived.Test.YtnechdhngpajbaaDoorX1F1
set_option linter.unusedVariables false
set_option linter.unusedSimpArgs false
set_option maxRecDepth 100000
namespace Go.Proofs.YtnechdhngpajbaaDoor
theorem cloneC26 {n : Nat} {look : Nat → Option ABlk} {l : List TReadbackOpen} {u : Unit} (h : roomO l.length 56 = some u) : PureD Tryd.prog KK.gl look n 26 [lstA TReadbackOpen.E l] (ownV TReadbackOpen.E n l) [(n, ownB TReadbackOpen.E 38 l)] :=
  made_ownC (by simp [cleans, clean, encs_clean]) (F26_own _ _ (by
    unfold F26
    exact clone_ok (E := TReadbackOpen.E) rfl rfl h))
theorem cloneS26 {n : Nat} {look : Nat → Option ABlk} {args : List AV} {l : List TReadbackOpen} {u : Unit} (h : roomO l.length 56 = some u) (hs : SnL look 6 args [lstA TReadbackOpen.E l]) : PureD Tryd.prog KK.gl look n 26 args (ownV TReadbackOpen.E n l) [(n, ownB TReadbackOpen.E 38 l)] :=
  made_ownS (fun _ => rfl) hs (F26_own _ _ (by
    unfold F26
    exact clone_ok (E := TReadbackOpen.E) rfl rfl h))
theorem del28 {n id : Nat} {look : Nat → Option ABlk} {l0 l y : List TReadbackOpen} {i j : Int} (hl : l0.length = l.length) (hb : look id = ownB TReadbackOpen.E 38 l) (h : delO 56 l i j = some y) : PureD Tryd.prog KK.gl look n 28 [ownV TReadbackOpen.E id l0, intA i, intA j] (blkW TReadbackOpen.E n y) [(n, some ⟨encs TReadbackOpen.E y, 38⟩), (id, none)] :=
  del_mk (fun _ => rfl) hl hb h fun a b r1 r2 h1 h2 => F28_1_call _ _ _ _ _ (by
    unfold F28_1
    exact delete_ok (by kernel_rfl) (by kernel_rfl) rfl rfl (by kernel_rfl) rfl r1 r2 h1 h2 _ (fun _ _ h => h) _ rfl _ rfl _ _ rfl rfl)
/- skyway/skywaykeep3.readbackFact -/
theorem ev8 : evalsTo Tryd.prog KF 300 8 = some true := by decide +kernel
theorem sg8 {n : Nat} {t : ρ8} (h : g8 n = some t) : Says Tryd.prog KK.gl 8 [] (boolA t) := by
  cases h
  exact says_of_evals (K := KF) fol (k := 300) ev8
/- skyway/chart.Name -/
theorem B43_0_ok (n : Nat) (c2 : Bool) (c14 : List UInt8) (c15 : Int) (v16 : Int) {t : (Int) ⊕ ρ43} (R : AV → Mem → Prop) (N0 : St → Prop) (hR : ∀ r : ρ43, t = (.inr r) → ∀ u m, Ans ((boolA r)) u m → R u m) (hN0 : ∀ y : Int, t = (.inl y) → ∀ s' : St, Weak KK 41 0 s' (h43_0 c2 (lstA byteE c14) c15 y []) → N0 s') : S43_0 n c2 c14 c15 v16 = some t → B43_0 c2 (lstA byteE c14) c15 v16 [] R N0 := by
  unfold S43_0 B43_0
  refine cond_b (fun _ => ?_) (fun _ => ?_)
  · refine bind_b fun x3 h3 => ?_
    refine imp (opP_of (show _ = some ((AV.ept [(AV.sc (.int .u8 (x3.toNat : Int)))] 0), []) from (idx_lst (E := byteE) rfl h3))) ?_
    refine imp (opP_of (show _ = some ((AV.sc (.int .u8 (x3.toNat : Int))), []) from rfl)) ?_
    refine imp ex_u8_b ?_
    refine cond_b (fun _ => ?_) (fun _ => ?_)
    · refine cond_b (fun _ => ?_) (fun _ => ?_)
      · exact fun hg => hN0 _ (Option.some.inj hg).symm _ (weak_mem [] rfl rfl rfl (okW_cons (.inl (leV_refl _)) (okW_cons (ent_lst (E := byteE) _ false) (okW_cons (.inl (leV_refl _)) (okW_cons (.inl (leV_refl _)) okW_nil)))) okB_nil')
      · refine cond_b (fun _ => ?_) (fun _ => ?_)
        · refine cond_b (fun _ => ?_) (fun _ => ?_)
          · refine cond_b (fun _ => ?_) (fun _ => ?_)
            · exact fun hg => ret1 (hR _ (Option.some.inj hg).symm) (fz_sc _ _)
            · exact fun hg => hN0 _ (Option.some.inj hg).symm _ (weak_mem [] rfl rfl rfl (okW_cons (.inl (leV_refl _)) (okW_cons (ent_lst (E := byteE) _ false) (okW_cons (.inl (leV_refl _)) (okW_cons (.inl (leV_refl _)) okW_nil)))) okB_nil')
          · exact fun hg => ret1 (hR _ (Option.some.inj hg).symm) (fz_sc _ _)
        · exact fun hg => ret1 (hR _ (Option.some.inj hg).symm) (fz_sc _ _)
    · refine cond_b (fun _ => ?_) (fun _ => ?_)
      · refine cond_b (fun _ => ?_) (fun _ => ?_)
        · refine cond_b (fun _ => ?_) (fun _ => ?_)
          · exact fun hg => ret1 (hR _ (Option.some.inj hg).symm) (fz_sc _ _)
          · exact fun hg => hN0 _ (Option.some.inj hg).symm _ (weak_mem [] rfl rfl rfl (okW_cons (.inl (leV_refl _)) (okW_cons (ent_lst (E := byteE) _ false) (okW_cons (.inl (leV_refl _)) (okW_cons (.inl (leV_refl _)) okW_nil)))) okB_nil')
        · exact fun hg => ret1 (hR _ (Option.some.inj hg).symm) (fz_sc _ _)
      · exact fun hg => ret1 (hR _ (Option.some.inj hg).symm) (fz_sc _ _)
  · exact fun hg => ret1 (hR _ (Option.some.inj hg).symm) (fz_sc _ _)
theorem L43_0_ok (n : Nat) (c2 : Bool) (c14 : List UInt8) (c15 : Int) {t : ρ43} (R : AV → Mem → Prop) (hR : ∀ r : ρ43, t = r → ∀ u m, Ans ((boolA r)) u m → R u m) (k : Nat) (x : Int) (hx : iterO (fun y : Int => S43_0 n c2 c14 c15 y) k x = some t) {s : St} (hw : Weak KK 41 0 s (h43_0 c2 (lstA byteE c14) c15 x [])) : Tri Tryd.prog KK 41 0 (.loop c43_0) s (q43_0 R ) :=
  L43_0 R  (σ := Nat × (Int)) (fun z => iterO (fun y : Int => S43_0 n c2 c14 c15 y) z.1 z.2 = some t) (fun z => c2) (fun z => (lstA byteE c14)) (fun z => c15) (fun z => z.2) (fun z => []) (fun z => z.1) (by
    rintro ⟨k, y⟩ h
    cases k with
    | zero => exact (iterO_zero h).elim
    | succ k =>
      obtain ⟨u, h1, h2, h3⟩ := iterO_elim h
      exact B43_0_ok n c2 c14 c15 y R  _ (fun r e => hR r (h3 _ e).symm)  (fun y' e s' hw => ⟨(k, y'), h2 _ e, Nat.lt_succ_self k, hw⟩) h1) (k, x) hx hw
theorem g43_ok (n : Nat) (a0 : ByteArray) {t : ρ43} (R : AV → Mem → Prop) (hR : ∀ r : ρ43, t = r → ∀ u m, Ans ((boolA r)) u m → R u m) : g43 n a0 = some t → F43 a0 R := by
  unfold g43 F43
  refine imp (opP_of (show _ = some ((intA (a0.size : Int)), []) from (by kernel_rfl))) ?_
  refine imp ex_i64_b ?_
  refine cond_b (fun _ => ?_) (fun _ => ?_)
  · exact fun hg => ret1 (hR _ (Option.some.inj hg).symm) (fz_sc _ _)
  · refine imp (opP_of (show _ = some ((intA (a0.size : Int)), []) from (by kernel_rfl))) ?_
    refine imp ex_i64_b ?_
    refine cond_b (fun _ => ?_) (fun _ => ?_)
    · exact fun hg => ret1 (hR _ (Option.some.inj hg).symm) (fz_sc _ _)
    · refine bind_b fun x2 h2 => ?_
      refine imp (opP_of (show _ = some ((lstA byteE (a0.data.toList)), []) from (opA_bytes (e := 5) (by kernel_rfl) (by kernel_rfl) (by kernel_rfl) h2))) ?_
      refine imp (opP_of (show _ = some ((intA ((a0.data.toList).length : Int)), []) from rfl)) ?_
      refine imp ex_i64_b ?_
      exact fun hg => L43_0_ok n false (a0.data.toList) ((a0.data.toList).length : Int) R  hR n _ hg (weak_mem [] rfl rfl rfl (okW_cons (.inl (leV_refl _)) (okW_cons (ent_lst (E := byteE) _ false) (okW_cons (.inl (leV_refl _)) (okW_cons (.inl (leV_refl _)) okW_nil)))) okB_nil')
theorem sg43 {n : Nat} {a0 : ByteArray} {t : ρ43} (h : g43 n a0 = some t) : Says Tryd.prog KK.gl 43 [(strA a0)] ((boolA t)) :=
  says_of_own (by first | rfl | simp [cleans, clean, encs_clean, En.cln]) (by first | rfl | simp [cleans, clean, encs_clean, En.cln]) (F43_own a0 _ (g43_ok n a0 (Ans ((boolA t))) (fun r e u m h => by rw [e]; exact h) h))
/- slices.Index[[]string,string] -/
theorem B48_0_ok (n : Nat) (a0 : List ByteArray) (a1 : ByteArray) (c4 : Int) (c7 : Int) (v8 : Int) {t : (Int) ⊕ ρ48} (R : AV → Mem → Prop) (N0 : St → Prop) (hR : ∀ r : ρ48, t = (.inr r) → ∀ u m, Ans ((intA r)) u m → R u m) (hN0 : ∀ y : Int, t = (.inl y) → ∀ s' : St, Weak KK 19 0 s' (h48_0 (lstA strE a0) a1 c4 c7 y []) → N0 s') : S48_0 n a0 a1 c4 c7 v8 = some t → B48_0 (lstA strE a0) a1 c4 c7 v8 [] R N0 := by
  unfold S48_0 B48_0
  refine cond_b (fun _ => ?_) (fun _ => ?_)
  · refine bind_b fun x5 h5 => ?_
    refine imp (opP_of (show _ = some ((AV.ept [(strA x5)] 0), []) from (idx_lst (E := strE) rfl h5))) ?_
    refine imp (opP_of (show _ = some ((strA x5), []) from rfl)) ?_
    refine imp exStr_b ?_
    refine cond_b (fun _ => ?_) (fun _ => ?_)
    · exact fun hg => ret1 (hR _ (Option.some.inj hg).symm) (fz_sc _ _)
    · exact fun hg => hN0 _ (Option.some.inj hg).symm _ (weak_mem [] rfl rfl rfl (okW_cons (ent_lst (E := strE) _ false) (okW_cons (.inl (leV_refl _)) (okW_cons (.inl (leV_refl _)) (okW_cons (.inl (leV_refl _)) (okW_cons (.inl (leV_refl _)) okW_nil))))) okB_nil')
  · exact fun hg => ret1 (hR _ (Option.some.inj hg).symm) (fz_sc _ _)
theorem L48_0_ok (n : Nat) (a0 : List ByteArray) (a1 : ByteArray) (c4 : Int) (c7 : Int) {t : ρ48} (R : AV → Mem → Prop) (hR : ∀ r : ρ48, t = r → ∀ u m, Ans ((intA r)) u m → R u m) (k : Nat) (x : Int) (hx : iterO (fun y : Int => S48_0 n a0 a1 c4 c7 y) k x = some t) {s : St} (hw : Weak KK 19 0 s (h48_0 (lstA strE a0) a1 c4 c7 x [])) : Tri Tryd.prog KK 19 0 (.loop c48_0) s (q48_0 R ) :=
  L48_0 R  (σ := Nat × (Int)) (fun z => iterO (fun y : Int => S48_0 n a0 a1 c4 c7 y) z.1 z.2 = some t) (fun z => (lstA strE a0)) (fun z => a1) (fun z => c4) (fun z => c7) (fun z => z.2) (fun z => []) (fun z => z.1) (by
    rintro ⟨k, y⟩ h
    cases k with
    | zero => exact (iterO_zero h).elim
    | succ k =>
      obtain ⟨u, h1, h2, h3⟩ := iterO_elim h
      exact B48_0_ok n a0 a1 c4 c7 y R  _ (fun r e => hR r (h3 _ e).symm)  (fun y' e s' hw => ⟨(k, y'), h2 _ e, Nat.lt_succ_self k, hw⟩) h1) (k, x) hx hw
theorem g48_ok (n : Nat) (a0 : List ByteArray) (a1 : ByteArray) {t : ρ48} (R : AV → Mem → Prop) (hR : ∀ r : ρ48, t = r → ∀ u m, Ans ((intA r)) u m → R u m) : g48 n a0 a1 = some t → F48 (lstA strE a0) a1 R := by
  unfold g48 F48
  refine imp (opP_of (show _ = some ((intA (a0.length : Int)), []) from rfl)) ?_
  refine imp ex_i64_b ?_
  exact fun hg => L48_0_ok n a0 a1 (0) (a0.length : Int) R  hR n _ hg (weak_mem [] rfl rfl rfl (okW_cons (ent_lst (E := strE) _ false) (okW_cons (.inl (leV_refl _)) (okW_cons (.inl (leV_refl _)) (okW_cons (.inl (leV_refl _)) (okW_cons (.inl (leV_refl _)) okW_nil))))) okB_nil')
theorem sg48 {n : Nat} {a0 : List ByteArray} {a1 : ByteArray} {t : ρ48} (h : g48 n a0 a1 = some t) : Says Tryd.prog KK.gl 48 [(lstA strE a0), (strA a1)] ((intA t)) :=
  says_of_own (by first | rfl | simp [cleans, clean, encs_clean, En.cln]) (by first | rfl | simp [cleans, clean, encs_clean, En.cln]) (F48_own (lstA strE a0) a1 _ (g48_ok n a0 a1 (Ans ((intA t))) (fun r e u m h => by rw [e]; exact h) h))
/- skyway/phrase.kind -/
theorem g41_ok (n : Nat) (a0 : ByteArray) {t : ρ41} (R : AV → Mem → Prop) (hR : ∀ r : ρ41, t = r → ∀ u m, Ans ((intA r)) u m → R u m) : g41 n a0 = some t → F41 a0 R := by
  unfold g41 F41
  refine imp (opP_of (show _ = some ((AV.lst (([(⟨#[72, 69, 73, 71, 72, 84]⟩ : ByteArray), (⟨#[72, 69, 65, 68, 73, 78, 71]⟩ : ByteArray), (⟨#[83, 80, 69, 69, 68]⟩ : ByteArray), (⟨#[68, 73, 82, 69, 67, 84]⟩ : ByteArray), (⟨#[72, 79, 76, 68]⟩ : ByteArray), (⟨#[67, 79, 78, 84, 65, 67, 84]⟩ : ByteArray), (⟨#[76, 65, 78, 68]⟩ : ByteArray)] : List ByteArray)).length (encs strE ([(⟨#[72, 69, 73, 71, 72, 84]⟩ : ByteArray), (⟨#[72, 69, 65, 68, 73, 78, 71]⟩ : ByteArray), (⟨#[83, 80, 69, 69, 68]⟩ : ByteArray), (⟨#[68, 73, 82, 69, 67, 84]⟩ : ByteArray), (⟨#[72, 79, 76, 68]⟩ : ByteArray), (⟨#[67, 79, 78, 84, 65, 67, 84]⟩ : ByteArray), (⟨#[76, 65, 78, 68]⟩ : ByteArray)] : List ByteArray)) true), []) from (by kernel_rfl))) ?_
  refine bind_b fun x6 h6 => ?_
  refine imp (callQ_saysL (rl_cons leV_lstT (rl_cons (leV_refl _) rl_nil)) (sg48 h6)) ?_
  refine imp ex_i64_b ?_
  exact fun hg => ret1 (hR _ (Option.some.inj hg).symm) (fz_sc _ _)
theorem sg41 {n : Nat} {a0 : ByteArray} {t : ρ41} (h : g41 n a0 = some t) : Says Tryd.prog KK.gl 41 [(strA a0)] ((intA t)) :=
  says_of_own (by first | rfl | simp [cleans, clean, encs_clean, En.cln]) (by first | rfl | simp [cleans, clean, encs_clean, En.cln]) (F41_own a0 _ (g41_ok n a0 (Ans ((intA t))) (fun r e u m h => by rw [e]; exact h) h))
/- skyway/phrase.name -/
theorem g38_ok (n : Nat) (a0 : ByteArray) {t : ρ38} (R : AV → Mem → Prop) (hR : ∀ r : ρ38, t = r → ∀ u m, Ans ((boolA r)) u m → R u m) : g38 n a0 = some t → F38 a0 R := by
  unfold g38 F38
  refine bind_b fun x4 h4 => ?_
  refine imp (callQ_says (sg43 h4)) ?_
  refine imp exB_b ?_
  refine cond_b (fun _ => ?_) (fun _ => ?_)
  · refine bind_b fun x7 h7 => ?_
    refine imp (callQ_says (sg41 h7)) ?_
    refine imp ex_i64_b ?_
    exact fun hg => ret1 (hR _ (Option.some.inj hg).symm) (fz_sc _ _)
  · exact fun hg => ret1 (hR _ (Option.some.inj hg).symm) (fz_sc _ _)
theorem sg38 {n : Nat} {a0 : ByteArray} {t : ρ38} (h : g38 n a0 = some t) : Says Tryd.prog KK.gl 38 [(strA a0)] ((boolA t)) :=
  says_of_own (by first | rfl | simp [cleans, clean, encs_clean, En.cln]) (by first | rfl | simp [cleans, clean, encs_clean, En.cln]) (F38_own a0 _ (g38_ok n a0 (Ans ((boolA t))) (fun r e u m h => by rw [e]; exact h) h))
/- skyway/phrase.Check -/
theorem g32_ok (n : Nat) (a0 : TClearance) {t : ρ32} (R : AV → Mem → Prop) (hR : ∀ r : ρ32, t = r → ∀ u m, Ans ((intA r)) u m → R u m) : g32 n a0 = some t → F32 a0.Call a0.Kind a0.Value a0.Fix R := by
  unfold g32 F32
  refine bind_b fun x8 h8 => ?_
  refine imp (callQ_says (sg38 h8)) ?_
  refine imp exB_b ?_
  refine cond_b (fun _ => ?_) (fun _ => ?_)
  · exact fun hg => ret1 (hR _ (Option.some.inj hg).symm) (fz_sc _ _)
  · refine cond_b (fun _ => ?_) (fun _ => ?_)
    · exact fun hg => ret1 (hR _ (Option.some.inj hg).symm) (fz_sc _ _)
    · refine cond_b (fun _ => ?_) (fun _ => ?_)
      · exact fun hg => ret1 (hR _ (Option.some.inj hg).symm) (fz_sc _ _)
      · refine cond_b (fun _ => ?_) (fun _ => ?_)
        · refine cond_b (fun _ => ?_) (fun _ => ?_)
          · exact fun hg => ret1 (hR _ (Option.some.inj hg).symm) (fz_sc _ _)
          · refine bind_b fun x9 h9 => ?_
            refine imp (callQ_says (sg38 h9)) ?_
            refine imp exB_b ?_
            refine cond_b (fun _ => ?_) (fun _ => ?_)
            · exact fun hg => ret1 (hR _ (Option.some.inj hg).symm) (fz_sc _ _)
            · exact fun hg => ret1 (hR _ (Option.some.inj hg).symm) (fz_sc _ _)
        · refine cond_b (fun _ => ?_) (fun _ => ?_)
          · exact fun hg => ret1 (hR _ (Option.some.inj hg).symm) (fz_sc _ _)
          · refine cond_b (fun _ => ?_) (fun _ => ?_)
            · exact fun hg => ret1 (hR _ (Option.some.inj hg).symm) (fz_sc _ _)
            · refine bind_b fun x10 h10 => ?_
              refine imp (opP_of (show _ = some ((AV.ept [(intA (60000)), (intA (4095)), (intA (400))] (((a0.Kind : Int).toNat) * 1 + 0)), []) from (idxA_ept0 (l := ([(60000), (4095), (400)] : List Int)) (len := 3) rfl h10))) ?_
              refine imp (opP_of (show _ = some ((intA x10), []) from (ldS_ept_blk (E := intE) (l := ([(60000), (4095), (400)] : List Int)) (o := 0) rfl (getI_some h10).2 rfl (by decide) rfl))) ?_
              refine imp ex_i64_b ?_
              refine cond_b (fun _ => ?_) (fun _ => ?_)
              · exact fun hg => ret1 (hR _ (Option.some.inj hg).symm) (fz_sc _ _)
              · exact fun hg => ret1 (hR _ (Option.some.inj hg).symm) (fz_sc _ _)
theorem sg32 {n : Nat} {a0 : TClearance} {t : ρ32} (h : g32 n a0 = some t) : Says Tryd.prog KK.gl 32 [(AV.agg [(strA a0.Call), (intA a0.Kind), (intA a0.Value), (strA a0.Fix)])] ((intA t)) :=
  says_of_own (by first | rfl | simp [cleans, clean, encs_clean, En.cln]) (by first | rfl | simp [cleans, clean, encs_clean, En.cln]) (F32_own a0.Call a0.Kind a0.Value a0.Fix _ (g32_ok n a0 (Ans ((intA t))) (fun r e u m h => by rw [e]; exact h) h))
/- skyway/readback.wrong -/
theorem g30_ok (n : Nat) (a0 : List TReadbackOpen) (a1 : Int) {t : ρ30} (R : AV → Mem → Prop) (hR : ∀ r : ρ30, t = r → ∀ u m, Ans ((boolA r)) u m → R u m) : g30 n a0 a1 = some t → F30 (lstA TReadbackOpen.E a0) a1 R := by
  unfold g30 F30
  refine cond_b (fun _ => ?_) (fun _ => ?_)
  · exact fun hg => ret1 (hR _ (Option.some.inj hg).symm) (fz_sc _ _)
  · refine cond_b (fun _ => ?_) (fun _ => ?_)
    · exact fun hg => ret1 (hR _ (Option.some.inj hg).symm) (fz_sc _ _)
    · refine imp (opP_of (show _ = some ((intA (a0.length : Int)), []) from rfl)) ?_
      refine imp ex_i64_b ?_
      refine cond_b (fun _ => ?_) (fun _ => ?_)
      · refine imp (opP_of (show _ = some ((intA (a0.length : Int)), []) from rfl)) ?_
        refine imp ex_i64_b ?_
        refine bind_b fun x13 h13 => ?_
        refine imp (opP_of (show _ = some ((AV.ept [(strA x13.Clearance_Call), (intA x13.Clearance_Kind), (intA x13.Clearance_Value), (strA x13.Clearance_Fix), (intA x13.Time)] 0), []) from (idx_lst (E := TReadbackOpen.E) rfl h13))) ?_
        refine imp (opP_of (show _ = some ((AV.ept [(strA x13.Clearance_Call), (intA x13.Clearance_Kind), (intA x13.Clearance_Value), (strA x13.Clearance_Fix), (intA x13.Time)] 4), []) from rfl)) ?_
        refine imp (opP_of (show _ = some ((intA x13.Time), []) from rfl)) ?_
        refine imp ex_i64_b ?_
        exact fun hg => ret1 (hR _ (Option.some.inj hg).symm) (fz_sc _ _)
      · exact fun hg => ret1 (hR _ (Option.some.inj hg).symm) (fz_sc _ _)
theorem sg30 {n : Nat} {a0 : List TReadbackOpen} {a1 : Int} {t : ρ30} (h : g30 n a0 a1 = some t) : Says Tryd.prog KK.gl 30 [(lstA TReadbackOpen.E a0), (intA a1)] ((boolA t)) :=
  says_of_own (by first | rfl | simp [cleans, clean, encs_clean, En.cln]) (by first | rfl | simp [cleans, clean, encs_clean, En.cln]) (F30_own (lstA TReadbackOpen.E a0) a1 _ (g30_ok n a0 a1 (Ans ((boolA t))) (fun r e u m h => by rw [e]; exact h) h))
/- skyway/readback.index$1 -/
theorem g37_ok (n : Nat) (a0 : TReadbackOpen) (a1_0 : ByteArray) (a1_1 : Int) (a1_2 : Int) (a1_3 : ByteArray) {t : ρ37} (R : AV → Mem → Prop) (hR : ∀ r : ρ37, t = r → ∀ u m, Ans ((boolA r)) u m → R u m) : g37 n a0 a1_0 a1_1 a1_2 a1_3 = some t → F37 a0.Clearance_Call a0.Clearance_Kind a0.Clearance_Value a0.Clearance_Fix a0.Time (AV.ept [(strA a1_0), (intA a1_1), (intA a1_2), (strA a1_3)] 0) R := by
  unfold g37 F37
  refine imp (opP_of (show _ = some ((AV.ept [(strA a1_0), (intA a1_1), (intA a1_2), (strA a1_3)] 0), []) from rfl)) ?_
  refine imp (opP_of (show _ = some ((strA a1_0), []) from rfl)) ?_
  refine imp exStr_b ?_
  refine cond_b (fun _ => ?_) (fun _ => ?_)
  · refine imp (opP_of (show _ = some ((AV.ept [(strA a1_0), (intA a1_1), (intA a1_2), (strA a1_3)] 1), []) from rfl)) ?_
    refine imp (opP_of (show _ = some ((intA a1_1), []) from rfl)) ?_
    refine imp ex_i64_b ?_
    exact fun hg => ret1 (hR _ (Option.some.inj hg).symm) (fz_sc _ _)
  · exact fun hg => ret1 (hR _ (Option.some.inj hg).symm) (fz_sc _ _)
theorem sg37 {n : Nat} {a0 : TReadbackOpen} {a1_0 : ByteArray} {a1_1 : Int} {a1_2 : Int} {a1_3 : ByteArray} {t : ρ37} (h : g37 n a0 a1_0 a1_1 a1_2 a1_3 = some t) : Says Tryd.prog KK.gl 37 [(AV.agg [(strA a0.Clearance_Call), (intA a0.Clearance_Kind), (intA a0.Clearance_Value), (strA a0.Clearance_Fix), (intA a0.Time)]), (AV.ept [(strA a1_0), (intA a1_1), (intA a1_2), (strA a1_3)] 0)] ((boolA t)) :=
  says_of_own (by first | rfl | simp [cleans, clean, encs_clean, En.cln]) (by first | rfl | simp [cleans, clean, encs_clean, En.cln]) (F37_own a0.Clearance_Call a0.Clearance_Kind a0.Clearance_Value a0.Clearance_Fix a0.Time (AV.ept [(strA a1_0), (intA a1_1), (intA a1_2), (strA a1_3)] 0) _ (g37_ok n a0 a1_0 a1_1 a1_2 a1_3 (Ans ((boolA t))) (fun r e u m h => by rw [e]; exact h) h))
/- slices.IndexFunc[[]skyway/api.ReadbackOpen,skyway/api.ReadbackOpen] -/
theorem B36_0_ok (n : Nat) (a0 : List TReadbackOpen) (a1_0_0 : ByteArray) (a1_0_1 : Int) (a1_0_2 : Int) (a1_0_3 : ByteArray) (c4 : Int) (c7 : Int) (v8 : Int) {t : (Int) ⊕ ρ36} (R : AV → Mem → Prop) (N0 : St → Prop) (hR : ∀ r : ρ36, t = (.inr r) → ∀ u m, Ans ((intA r)) u m → R u m) (hN0 : ∀ y : Int, t = (.inl y) → ∀ s' : St, Weak KK 19 0 s' (h36_0 (lstA TReadbackOpen.E a0) (AV.fn 37 [(AV.ept [(strA a1_0_0), (intA a1_0_1), (intA a1_0_2), (strA a1_0_3)] 0)]) c4 c7 y []) → N0 s') : S36_0 n a0 a1_0_0 a1_0_1 a1_0_2 a1_0_3 c4 c7 v8 = some t → B36_0 (lstA TReadbackOpen.E a0) (AV.fn 37 [(AV.ept [(strA a1_0_0), (intA a1_0_1), (intA a1_0_2), (strA a1_0_3)] 0)]) c4 c7 v8 [] R N0 := by
  unfold S36_0 B36_0
  refine cond_b (fun _ => ?_) (fun _ => ?_)
  · refine bind_b fun x16 h16 => ?_
    refine imp (opP_of (show _ = some ((AV.ept [(strA x16.Clearance_Call), (intA x16.Clearance_Kind), (intA x16.Clearance_Value), (strA x16.Clearance_Fix), (intA x16.Time)] 0), []) from (idx_lst (E := TReadbackOpen.E) rfl h16))) ?_
    refine imp (opP_of (show _ = some ((AV.agg [(strA x16.Clearance_Call), (intA x16.Clearance_Kind), (intA x16.Clearance_Value), (strA x16.Clearance_Fix), (intA x16.Time)]), []) from rfl)) ?_
    refine imp exA5_b ?_
    refine imp exStr_b ?_
    refine imp ex_i64_b ?_
    refine imp ex_i64_b ?_
    refine imp exStr_b ?_
    refine imp ex_i64_b ?_
    refine bind_b fun x17 h17 => ?_
    refine imp fnArgs_b ?_
    refine imp (cond_ff rfl) ?_
    refine imp (callW_says (sg37 h17)) ?_
    refine imp exB_b ?_
    refine cond_b (fun _ => ?_) (fun _ => ?_)
    · exact fun hg => ret1 (hR _ (Option.some.inj hg).symm) (fz_sc _ _)
    · exact fun hg => hN0 _ (Option.some.inj hg).symm _ (weak_mem [] rfl rfl rfl (okW_cons (ent_lst (E := TReadbackOpen.E) _ false) (okW_cons (ent_clean (leV_refl _) (by simp [clean, cleans, encs_clean])) (okW_cons (.inl (leV_refl _)) (okW_cons (.inl (leV_refl _)) (okW_cons (.inl (leV_refl _)) okW_nil))))) okB_nil')
  · exact fun hg => ret1 (hR _ (Option.some.inj hg).symm) (fz_sc _ _)
theorem L36_0_ok (n : Nat) (a0 : List TReadbackOpen) (a1_0_0 : ByteArray) (a1_0_1 : Int) (a1_0_2 : Int) (a1_0_3 : ByteArray) (c4 : Int) (c7 : Int) {t : ρ36} (R : AV → Mem → Prop) (hR : ∀ r : ρ36, t = r → ∀ u m, Ans ((intA r)) u m → R u m) (k : Nat) (x : Int) (hx : iterO (fun y : Int => S36_0 n a0 a1_0_0 a1_0_1 a1_0_2 a1_0_3 c4 c7 y) k x = some t) {s : St} (hw : Weak KK 19 0 s (h36_0 (lstA TReadbackOpen.E a0) (AV.fn 37 [(AV.ept [(strA a1_0_0), (intA a1_0_1), (intA a1_0_2), (strA a1_0_3)] 0)]) c4 c7 x [])) : Tri Tryd.prog KK 19 0 (.loop c36_0) s (q36_0 R ) :=
  L36_0 R  (σ := Nat × (Int)) (fun z => iterO (fun y : Int => S36_0 n a0 a1_0_0 a1_0_1 a1_0_2 a1_0_3 c4 c7 y) z.1 z.2 = some t) (fun z => (lstA TReadbackOpen.E a0)) (fun z => (AV.fn 37 [(AV.ept [(strA a1_0_0), (intA a1_0_1), (intA a1_0_2), (strA a1_0_3)] 0)])) (fun z => c4) (fun z => c7) (fun z => z.2) (fun z => []) (fun z => z.1) (by
    rintro ⟨k, y⟩ h
    cases k with
    | zero => exact (iterO_zero h).elim
    | succ k =>
      obtain ⟨u, h1, h2, h3⟩ := iterO_elim h
      exact B36_0_ok n a0 a1_0_0 a1_0_1 a1_0_2 a1_0_3 c4 c7 y R  _ (fun r e => hR r (h3 _ e).symm)  (fun y' e s' hw => ⟨(k, y'), h2 _ e, Nat.lt_succ_self k, hw⟩) h1) (k, x) hx hw
theorem g36_ok (n : Nat) (a0 : List TReadbackOpen) (a1_0_0 : ByteArray) (a1_0_1 : Int) (a1_0_2 : Int) (a1_0_3 : ByteArray) {t : ρ36} (R : AV → Mem → Prop) (hR : ∀ r : ρ36, t = r → ∀ u m, Ans ((intA r)) u m → R u m) : g36 n a0 a1_0_0 a1_0_1 a1_0_2 a1_0_3 = some t → F36 (lstA TReadbackOpen.E a0) (AV.fn 37 [(AV.ept [(strA a1_0_0), (intA a1_0_1), (intA a1_0_2), (strA a1_0_3)] 0)]) R := by
  unfold g36 F36
  refine imp (opP_of (show _ = some ((intA (a0.length : Int)), []) from rfl)) ?_
  refine imp ex_i64_b ?_
  exact fun hg => L36_0_ok n a0 a1_0_0 a1_0_1 a1_0_2 a1_0_3 (0) (a0.length : Int) R  hR n _ hg (weak_mem [] rfl rfl rfl (okW_cons (ent_lst (E := TReadbackOpen.E) _ false) (okW_cons (ent_clean (leV_refl _) (by simp [clean, cleans, encs_clean])) (okW_cons (.inl (leV_refl _)) (okW_cons (.inl (leV_refl _)) (okW_cons (.inl (leV_refl _)) okW_nil))))) okB_nil')
theorem sg36 {n : Nat} {a0 : List TReadbackOpen} {a1_0_0 : ByteArray} {a1_0_1 : Int} {a1_0_2 : Int} {a1_0_3 : ByteArray} {t : ρ36} (h : g36 n a0 a1_0_0 a1_0_1 a1_0_2 a1_0_3 = some t) : Says Tryd.prog KK.gl 36 [(lstA TReadbackOpen.E a0), (AV.fn 37 [(AV.ept [(strA a1_0_0), (intA a1_0_1), (intA a1_0_2), (strA a1_0_3)] 0)])] ((intA t)) :=
  says_of_own (by first | rfl | simp [cleans, clean, encs_clean, En.cln]) (by first | rfl | simp [cleans, clean, encs_clean, En.cln]) (F36_own (lstA TReadbackOpen.E a0) (AV.fn 37 [(AV.ept [(strA a1_0_0), (intA a1_0_1), (intA a1_0_2), (strA a1_0_3)] 0)]) _ (g36_ok n a0 a1_0_0 a1_0_1 a1_0_2 a1_0_3 (Ans ((intA t))) (fun r e u m h => by rw [e]; exact h) h))
/- skyway/readback.index -/
theorem g27_ok (n : Nat) (a0 : List TReadbackOpen) (a1 : TClearance) {t : ρ27} (R : AV → Mem → Prop) (hR : ∀ r : ρ27, t = r → ∀ u m, Ans ((intA r)) u m → R u m) : g27 n a0 a1 = some t → F27 (lstA TReadbackOpen.E a0) a1.Call a1.Kind a1.Value a1.Fix R := by
  unfold g27 F27
  refine bind_b fun x18 h18 => ?_
  refine imp (callQ_pure (pure_snapN (snL_cons (sn_lst (E := TReadbackOpen.E) _ _ false) (snL_cons (sn_fn _ _ (snL_cons (sn_ptr _ (ty := 24) (us := [(strA a1.Call), (intA a1.Kind), (intA a1.Value), (strA a1.Fix)]) (by first | rfl | (simp (disch := decide) only [mpushs_nil, mpushs_cons, mget_hd, mget_tl, mget_appW_o, mget_appW_n])) (snL_cons (sn_sc _ _) (snL_cons (sn_sc _ _) (snL_cons (sn_sc _ _) (snL_cons (sn_sc _ _) snL_nil))))) snL_nil)) snL_nil)) (sg36 h18) rfl)) ?_
  refine imp ex_i64_b ?_
  exact fun hg => ret1 (hR _ (Option.some.inj hg).symm) (fz_sc _ _)
theorem sg27 {n : Nat} {a0 : List TReadbackOpen} {a1 : TClearance} {t : ρ27} (h : g27 n a0 a1 = some t) : Says Tryd.prog KK.gl 27 [(lstA TReadbackOpen.E a0), (AV.agg [(strA a1.Call), (intA a1.Kind), (intA a1.Value), (strA a1.Fix)])] ((intA t)) :=
  says_of_own (by first | rfl | simp [cleans, clean, encs_clean, En.cln]) (by first | rfl | simp [cleans, clean, encs_clean, En.cln]) (F27_own (lstA TReadbackOpen.E a0) a1.Call a1.Kind a1.Value a1.Fix _ (g27_ok n a0 a1 (Ans ((intA t))) (fun r e u m h => by rw [e]; exact h) h))
/- skyway/readback.Check -/
theorem B24_0_ok (n : Nat) (a0 : List TReadbackOpen) (c2 : Int) (c10 : Int) (v11 : Int) {t : (Int) ⊕ ρ24} (R : AV → Mem → Prop) (N0 : St → Prop) (hR : ∀ r : ρ24, t = (.inr r) → ∀ u m, Ans ((intA r)) u m → R u m) (hN0 : ∀ y : Int, t = (.inl y) → ∀ s' : St, Weak KK 38 0 s' (h24_0 (lstA TReadbackOpen.E a0) c2 (lstA TReadbackOpen.E a0) c10 y []) → N0 s') : S24_0 n a0 c2 c10 v11 = some t → B24_0 (lstA TReadbackOpen.E a0) c2 (lstA TReadbackOpen.E a0) c10 v11 [] R N0 := by
  unfold S24_0 B24_0
  refine cond_b (fun _ => ?_) (fun _ => ?_)
  · refine bind_b fun x1 h1 => ?_
    refine imp (opP_of (show _ = some ((AV.ept [(strA x1.Clearance_Call), (intA x1.Clearance_Kind), (intA x1.Clearance_Value), (strA x1.Clearance_Fix), (intA x1.Time)] 0), []) from (idx_lst (E := TReadbackOpen.E) rfl h1))) ?_
    refine imp (opP_of (show _ = some ((AV.agg [(strA x1.Clearance_Call), (intA x1.Clearance_Kind), (intA x1.Clearance_Value), (strA x1.Clearance_Fix), (intA x1.Time)]), []) from rfl)) ?_
    refine imp exA5_b ?_
    refine imp exStr_b ?_
    refine imp ex_i64_b ?_
    refine imp ex_i64_b ?_
    refine imp exStr_b ?_
    refine imp ex_i64_b ?_
    refine bind_b fun x11 h11 => ?_
    refine imp (callQ_says (sg32 h11)) ?_
    refine imp ex_i64_b ?_
    refine cond_b (fun _ => ?_) (fun _ => ?_)
    · exact fun hg => ret1 (hR _ (Option.some.inj hg).symm) (fz_sc _ _)
    · refine bind_b fun x12 h12 => ?_
      refine imp (opP_of (show _ = some ((lstA TReadbackOpen.E x12), []) from (slc_hi (E := TReadbackOpen.E) (e := 38) (by kernel_rfl) (by kernel_rfl) rfl h12))) ?_
      refine bind_b fun x14 h14 => ?_
      refine imp (callQ_says (sg30 h14)) ?_
      refine imp exB_b ?_
      refine cond_b (fun _ => ?_) (fun _ => ?_)
      · exact fun hg => ret1 (hR _ (Option.some.inj hg).symm) (fz_sc _ _)
      · refine bind_b fun x15 h15 => ?_
        refine imp (opP_of (show _ = some ((lstA TReadbackOpen.E x15), []) from (slc_hi (E := TReadbackOpen.E) (e := 38) (by kernel_rfl) (by kernel_rfl) rfl h15))) ?_
        refine bind_b fun x19 h19 => ?_
        refine imp (callQ_says (sg27 h19)) ?_
        refine imp ex_i64_b ?_
        refine cond_b (fun _ => ?_) (fun _ => ?_)
        · exact fun hg => ret1 (hR _ (Option.some.inj hg).symm) (fz_sc _ _)
        · exact fun hg => hN0 _ (Option.some.inj hg).symm _ (weak_mem [] rfl rfl rfl (okW_cons (ent_lst (E := TReadbackOpen.E) _ false) (okW_cons (.inl (leV_refl _)) (okW_cons (ent_lst (E := TReadbackOpen.E) _ false) (okW_cons (.inl (leV_refl _)) (okW_cons (.inl (leV_refl _)) okW_nil))))) okB_nil')
  · exact fun hg => ret1 (hR _ (Option.some.inj hg).symm) (fz_sc _ _)
theorem L24_0_ok (n : Nat) (a0 : List TReadbackOpen) (c2 : Int) (c10 : Int) {t : ρ24} (R : AV → Mem → Prop) (hR : ∀ r : ρ24, t = r → ∀ u m, Ans ((intA r)) u m → R u m) (k : Nat) (x : Int) (hx : iterO (fun y : Int => S24_0 n a0 c2 c10 y) k x = some t) {s : St} (hw : Weak KK 38 0 s (h24_0 (lstA TReadbackOpen.E a0) c2 (lstA TReadbackOpen.E a0) c10 x [])) : Tri Tryd.prog KK 38 0 (.loop c24_0) s (q24_0 R ) :=
  L24_0 R  (σ := Nat × (Int)) (fun z => iterO (fun y : Int => S24_0 n a0 c2 c10 y) z.1 z.2 = some t) (fun z => (lstA TReadbackOpen.E a0)) (fun z => c2) (fun z => (lstA TReadbackOpen.E a0)) (fun z => c10) (fun z => z.2) (fun z => []) (fun z => z.1) (by
    rintro ⟨k, y⟩ h
    cases k with
    | zero => exact (iterO_zero h).elim
    | succ k =>
      obtain ⟨u, h1, h2, h3⟩ := iterO_elim h
      exact B24_0_ok n a0 c2 c10 y R  _ (fun r e => hR r (h3 _ e).symm)  (fun y' e s' hw => ⟨(k, y'), h2 _ e, Nat.lt_succ_self k, hw⟩) h1) (k, x) hx hw
theorem g24_ok (n : Nat) (a0 : List TReadbackOpen) {t : ρ24} (R : AV → Mem → Prop) (hR : ∀ r : ρ24, t = r → ∀ u m, Ans ((intA r)) u m → R u m) : g24 n a0 = some t → F24 (lstA TReadbackOpen.E a0) R := by
  unfold g24 F24
  refine imp (opP_of (show _ = some ((intA (a0.length : Int)), []) from rfl)) ?_
  refine imp ex_i64_b ?_
  refine cond_b (fun _ => ?_) (fun _ => ?_)
  · exact fun hg => ret1 (hR _ (Option.some.inj hg).symm) (fz_sc _ _)
  · refine imp (opP_of (show _ = some ((intA (a0.length : Int)), []) from rfl)) ?_
    refine imp ex_i64_b ?_
    exact fun hg => L24_0_ok n a0 (0) (a0.length : Int) R  hR n _ hg (weak_mem [] rfl rfl rfl (okW_cons (ent_lst (E := TReadbackOpen.E) _ false) (okW_cons (.inl (leV_refl _)) (okW_cons (ent_lst (E := TReadbackOpen.E) _ false) (okW_cons (.inl (leV_refl _)) (okW_cons (.inl (leV_refl _)) okW_nil))))) okB_nil')
theorem sg24 {n : Nat} {a0 : List TReadbackOpen} {t : ρ24} (h : g24 n a0 = some t) : Says Tryd.prog KK.gl 24 [(lstA TReadbackOpen.E a0)] ((intA t)) :=
  says_of_own (by first | rfl | simp [cleans, clean, encs_clean, En.cln]) (by first | rfl | simp [cleans, clean, encs_clean, En.cln]) (F24_own (lstA TReadbackOpen.E a0) _ (g24_ok n a0 (Ans ((intA t))) (fun r e u m h => by rw [e]; exact h) h))
/- skyway/readback.check -/
theorem g25_ok (n : Nat) (a0 : List TReadbackOpen) (a1 : TClearance) (a2 : Int) {t : ρ25} (R : AV → Mem → Prop) (hR : ∀ r : ρ25, t = r → ∀ u m, Ans ((intA r)) u m → R u m) : g25 n a0 a1 a2 = some t → F25 (lstA TReadbackOpen.E a0) a1.Call a1.Kind a1.Value a1.Fix a2 R := by
  unfold g25 F25
  refine bind_b fun x20 h20 => ?_
  refine imp (callQ_says (sg24 h20)) ?_
  refine imp ex_i64_b ?_
  refine cond_b (fun _ => ?_) (fun _ => ?_)
  · exact fun hg => ret1 (hR _ (Option.some.inj hg).symm) (fz_sc _ _)
  · refine bind_b fun x21 h21 => ?_
    refine imp (callQ_says (sg32 h21)) ?_
    refine imp ex_i64_b ?_
    refine cond_b (fun _ => ?_) (fun _ => ?_)
    · exact fun hg => ret1 (hR _ (Option.some.inj hg).symm) (fz_sc _ _)
    · refine bind_b fun x22 h22 => ?_
      refine imp (callQ_says (sg30 h22)) ?_
      refine imp exB_b ?_
      refine cond_b (fun _ => ?_) (fun _ => ?_)
      · exact fun hg => ret1 (hR _ (Option.some.inj hg).symm) (fz_sc _ _)
      · exact fun hg => ret1 (hR _ (Option.some.inj hg).symm) (fz_sc _ _)
theorem sg25 {n : Nat} {a0 : List TReadbackOpen} {a1 : TClearance} {a2 : Int} {t : ρ25} (h : g25 n a0 a1 a2 = some t) : Says Tryd.prog KK.gl 25 [(lstA TReadbackOpen.E a0), (AV.agg [(strA a1.Call), (intA a1.Kind), (intA a1.Value), (strA a1.Fix)]), (intA a2)] ((intA t)) :=
  says_of_own (by first | rfl | simp [cleans, clean, encs_clean, En.cln]) (by first | rfl | simp [cleans, clean, encs_clean, En.cln]) (F25_own (lstA TReadbackOpen.E a0) a1.Call a1.Kind a1.Value a1.Fix a2 _ (g25_ok n a0 a1 a2 (Ans ((intA t))) (fun r e u m h => by rw [e]; exact h) h))
/- skyway/readback.Say -/
theorem g9_ok (n : Nat) (a0 : List TReadbackOpen) (a1 : TClearance) (a2 : Int) {t : ρ9} (R : AV → Mem → Prop) (hR : ∀ r : ρ9, t = r → ∀ u m, Ans ((AV.tup [(lstA TReadbackOpen.E r.1), (intA r.2)])) u m → R u m) : g9 n a0 a1 a2 = some t → F9 (lstA TReadbackOpen.E a0) a1.Call a1.Kind a1.Value a1.Fix a2 R := by
  unfold g9 F9
  refine bind_b fun x23 h23 => ?_
  refine imp (callQ_says (sg25 h23)) ?_
  refine imp ex_i64_b ?_
  refine cond_b (fun _ => ?_) (fun _ => ?_)
  · exact fun hg => retN rfl (hR _ (Option.some.inj hg).symm) (fzL_cons (fz_nils (E := TReadbackOpen.E) _) (fzL_cons (fz_sc _ _) fzL_nil))
  · refine bind_b fun x24 h24 => ?_
    refine imp (callW_D (show PureD _ _ _ _ _ _ (ownV TReadbackOpen.E 74 a0) [(74, ownB TReadbackOpen.E 38 a0)] from cloneC26 h24)) ?_
    refine imp (opP_of (show _ = some ((AV.agg [(strA a1.Call), (intA a1.Kind), (intA a1.Value), (strA a1.Fix)]), []) from (ldA_ptr (b := ⟨[(strA a1.Call), (intA a1.Kind), (intA a1.Value), (strA a1.Fix)], 24⟩) (by first | rfl | (simp (disch := decide) only [mpushs_nil, mpushs_cons, mget_hd, mget_tl, mget_appW_o, mget_appW_n])) rfl))) ?_
    refine imp exA4_b ?_
    refine imp exStr_b ?_
    refine imp ex_i64_b ?_
    refine imp ex_i64_b ?_
    refine imp exStr_b ?_
    refine bind_b fun x25 h25 => ?_
    refine imp (callQ_pure (pure_snapN (snL_cons (sn_own (E := TReadbackOpen.E) (ty := 38) (l' := a0) _ TReadbackOpen.nf rfl (by first | rfl | (simp (disch := decide) only [mpushs_nil, mpushs_cons, mget_hd, mget_tl, mget_appW_o, mget_appW_n]))) (snL_cons (sn_agg _ (snL_cons (sn_sc _ _) (snL_cons (sn_sc _ _) (snL_cons (sn_sc _ _) (snL_cons (sn_sc _ _) snL_nil))))) snL_nil)) (sg27 h25) rfl)) ?_
    refine imp ex_i64_b ?_
    refine cond_b (fun _ => ?_) (fun _ => ?_)
    · refine bind_b fun x26 h26 => ?_
      refine imp (callW_D (show PureD _ _ _ _ _ _ (blkW TReadbackOpen.E 212 x26) [(212, some ⟨encs TReadbackOpen.E x26, 38⟩), (74, none)] from del28 rfl (by first | rfl | (simp (disch := decide) only [mpushs_nil, mpushs_cons, mget_hd, mget_tl, mget_appW_o, mget_appW_n])) h26)) ?_
      refine imp (opP_of (show _ = some ((intA (x26.length : Int)), []) from (len_bw rfl))) ?_
      refine imp ex_i64_b ?_
      refine cond_b (fun _ => ?_) (fun _ => ?_)
      · exact fun hg => retN rfl (hR _ (Option.some.inj hg).symm) (fzL_cons (fz_nils (E := TReadbackOpen.E) _) (fzL_cons (fz_sc _ _) fzL_nil))
      · refine imp (opP_of (show _ = some ((AV.agg [(strA a1.Call), (intA a1.Kind), (intA a1.Value), (strA a1.Fix)]), []) from (ldA_ptr (b := ⟨[(strA a1.Call), (intA a1.Kind), (intA a1.Value), (strA a1.Fix)], 24⟩) (by first | rfl | (simp (disch := decide) only [mpushs_nil, mpushs_cons, mget_hd, mget_tl, mget_appW_o, mget_appW_n])) rfl))) ?_
        refine imp exA4_b ?_
        refine imp exStr_b ?_
        refine imp ex_i64_b ?_
        refine imp ex_i64_b ?_
        refine imp exStr_b ?_
        refine imp (opP_of (show _ = some ((AV.agg [(strA a1.Call), (intA a1.Kind), (intA a1.Value), (strA a1.Fix), (intA a2)]), []) from rfl)) ?_
        refine imp (opN_of (show _ = some ((blkV TReadbackOpen.E 284 ([(⟨a1.Call, a1.Kind, a1.Value, a1.Fix, a2⟩ : TReadbackOpen)] : List TReadbackOpen)), [(284, some ⟨encs TReadbackOpen.E ([(⟨a1.Call, a1.Kind, a1.Value, a1.Fix, a2⟩ : TReadbackOpen)] : List TReadbackOpen), 38⟩)]) from rfl)) ?_
        refine bind_b fun x27 h27 => ?_
        refine imp (opN_of (show _ = some ((ownV TReadbackOpen.E 285 (x26 ++ ([(⟨a1.Call, a1.Kind, a1.Value, a1.Fix, a2⟩ : TReadbackOpen)] : List TReadbackOpen))), [(285, ownB TReadbackOpen.E 38 (x26 ++ ([(⟨a1.Call, a1.Kind, a1.Value, a1.Fix, a2⟩ : TReadbackOpen)] : List TReadbackOpen))), (212, none)]) from (app_bw (E := TReadbackOpen.E) (l' := x26) (xs := ([(⟨a1.Call, a1.Kind, a1.Value, a1.Fix, a2⟩ : TReadbackOpen)] : List TReadbackOpen)) rfl rfl (cellsOf_blk (E := TReadbackOpen.E) (ty := 38) rfl rfl (by first | rfl | (simp (disch := decide) only [mpushs_nil, mpushs_cons, mget_hd, mget_tl, mget_appW_o, mget_appW_n]))) (by simp) rfl (by first | rfl | (simp (disch := decide) only [mpushs_nil, mpushs_cons, mget_hd, mget_tl, mget_appW_o, mget_appW_n])) h27))) ?_
        exact fun hg => retN rfl (hR _ (Option.some.inj hg).symm) (fzL_cons (fz_own (E := TReadbackOpen.E) (ty := 38) (l' := (x26 ++ ([(⟨a1.Call, a1.Kind, a1.Value, a1.Fix, a2⟩ : TReadbackOpen)] : List TReadbackOpen))) _ rfl (by first | rfl | (simp (disch := decide) only [mpushs_nil, mpushs_cons, mget_hd, mget_tl, mget_appW_o, mget_appW_n]))) (fzL_cons (fz_sc _ _) fzL_nil))
    · refine imp (opP_of (show _ = some ((intA (a0.length : Int)), []) from len_own)) ?_
      refine imp ex_i64_b ?_
      refine cond_b (fun _ => ?_) (fun _ => ?_)
      · exact fun hg => retN rfl (hR _ (Option.some.inj hg).symm) (fzL_cons (fz_nils (E := TReadbackOpen.E) _) (fzL_cons (fz_sc _ _) fzL_nil))
      · refine imp (opP_of (show _ = some ((AV.agg [(strA a1.Call), (intA a1.Kind), (intA a1.Value), (strA a1.Fix)]), []) from (ldA_ptr (b := ⟨[(strA a1.Call), (intA a1.Kind), (intA a1.Value), (strA a1.Fix)], 24⟩) (by first | rfl | (simp (disch := decide) only [mpushs_nil, mpushs_cons, mget_hd, mget_tl, mget_appW_o, mget_appW_n])) rfl))) ?_
        refine imp exA4_b ?_
        refine imp exStr_b ?_
        refine imp ex_i64_b ?_
        refine imp ex_i64_b ?_
        refine imp exStr_b ?_
        refine imp (opP_of (show _ = some ((AV.agg [(strA a1.Call), (intA a1.Kind), (intA a1.Value), (strA a1.Fix), (intA a2)]), []) from rfl)) ?_
        refine imp (opN_of (show _ = some ((blkV TReadbackOpen.E 215 ([(⟨a1.Call, a1.Kind, a1.Value, a1.Fix, a2⟩ : TReadbackOpen)] : List TReadbackOpen)), [(215, some ⟨encs TReadbackOpen.E ([(⟨a1.Call, a1.Kind, a1.Value, a1.Fix, a2⟩ : TReadbackOpen)] : List TReadbackOpen), 38⟩)]) from rfl)) ?_
        refine bind_b fun x28 h28 => ?_
        refine imp (opN_of (show _ = some ((ownV TReadbackOpen.E 216 (a0 ++ ([(⟨a1.Call, a1.Kind, a1.Value, a1.Fix, a2⟩ : TReadbackOpen)] : List TReadbackOpen))), (appW TReadbackOpen.E 216 74 38 a0 ([(⟨a1.Call, a1.Kind, a1.Value, a1.Fix, a2⟩ : TReadbackOpen)] : List TReadbackOpen))) from (app_own (E := TReadbackOpen.E) (l' := a0) (xs := ([(⟨a1.Call, a1.Kind, a1.Value, a1.Fix, a2⟩ : TReadbackOpen)] : List TReadbackOpen)) rfl rfl (cellsOf_blk (E := TReadbackOpen.E) (ty := 38) rfl rfl (by first | rfl | (simp (disch := decide) only [mpushs_nil, mpushs_cons, mget_hd, mget_tl, mget_appW_o, mget_appW_n]))) (by simp) rfl (fun hne => Eq.trans (by first | rfl | (simp (disch := decide) only [mpushs_nil, mpushs_cons, mget_hd, mget_tl, mget_appW_o, mget_appW_n])) (ownB_ne hne)) h28))) ?_
        exact fun hg => retN rfl (hR _ (Option.some.inj hg).symm) (fzL_cons (fz_own (E := TReadbackOpen.E) (ty := 38) (l' := (a0 ++ ([(⟨a1.Call, a1.Kind, a1.Value, a1.Fix, a2⟩ : TReadbackOpen)] : List TReadbackOpen))) _ rfl (by first | rfl | (simp (disch := decide) only [mpushs_nil, mpushs_cons, mget_hd, mget_tl, mget_appW_o, mget_appW_n]))) (fzL_cons (fz_sc _ _) fzL_nil))
theorem sg9 {n : Nat} {a0 : List TReadbackOpen} {a1 : TClearance} {a2 : Int} {t : ρ9} (h : g9 n a0 a1 a2 = some t) : Says Tryd.prog KK.gl 9 [(lstA TReadbackOpen.E a0), (AV.agg [(strA a1.Call), (intA a1.Kind), (intA a1.Value), (strA a1.Fix)]), (intA a2)] ((AV.tup [(lstA TReadbackOpen.E t.1), (intA t.2)])) :=
  says_of_own (by first | rfl | simp [cleans, clean, encs_clean, En.cln]) (by first | rfl | simp [cleans, clean, encs_clean, En.cln]) (F9_own (lstA TReadbackOpen.E a0) a1.Call a1.Kind a1.Value a1.Fix a2 _ (g9_ok n a0 a1 a2 (Ans ((AV.tup [(lstA TReadbackOpen.E t.1), (intA t.2)]))) (fun r e u m h => by rw [e]; exact h) h))
/- skyway/skywaykeep3.pick -/
theorem g10_ok (n : Nat) (a0 : Int) (a1 : Int) {t : ρ10} (R : AV → Mem → Prop) (hR : ∀ r : ρ10, t = r → ∀ u m, Ans ((intA r)) u m → R u m) : g10 n a0 a1 = some t → F10 a0 a1 R := by
  unfold g10 F10
  refine imp (opP_of (show _ = some ((AV.sc (.int .u64 (IntKind.wrap .u64 a0))), []) from (by kernel_rfl))) ?_
  refine imp ex_u64_b ?_
  refine imp (opP_of (show _ = some ((AV.sc (.int .u64 (IntKind.wrap .u64 a1))), []) from (by kernel_rfl))) ?_
  refine imp ex_u64_b ?_
  refine bind_b fun x30 h30 => ?_
  refine imp (opP_of (show _ = some ((AV.sc (.int .u64 x30)), []) from (opA_rem h30))) ?_
  refine imp ex_u64_b ?_
  refine imp (opP_of (show _ = some ((intA (IntKind.wrap .i64 x30)), []) from (by kernel_rfl))) ?_
  refine imp ex_i64_b ?_
  exact fun hg => ret1 (hR _ (Option.some.inj hg).symm) (fz_sc _ _)
theorem sg10 {n : Nat} {a0 : Int} {a1 : Int} {t : ρ10} (h : g10 n a0 a1 = some t) : Says Tryd.prog KK.gl 10 [(intA a0), (intA a1)] ((intA t)) :=
  says_of_own (by first | rfl | simp [cleans, clean, encs_clean, En.cln]) (by first | rfl | simp [cleans, clean, encs_clean, En.cln]) (F10_own a0 a1 _ (g10_ok n a0 a1 (Ans ((intA t))) (fun r e u m h => by rw [e]; exact h) h))
/- skyway/readback.Hear -/
theorem g11_ok (n : Nat) (a0 : List TReadbackOpen) (a1 : TClearance) (a2 : Int) {t : ρ11} (R : AV → Mem → Prop) (hR : ∀ r : ρ11, t = r → ∀ u m, Ans ((AV.tup [(lstA TReadbackOpen.E r.1), (intA r.2)])) u m → R u m) : g11 n a0 a1 a2 = some t → F11 (lstA TReadbackOpen.E a0) a1.Call a1.Kind a1.Value a1.Fix a2 R := by
  unfold g11 F11
  refine bind_b fun x32 h32 => ?_
  refine imp (callQ_says (sg25 h32)) ?_
  refine imp ex_i64_b ?_
  refine cond_b (fun _ => ?_) (fun _ => ?_)
  · exact fun hg => retN rfl (hR _ (Option.some.inj hg).symm) (fzL_cons (fz_nils (E := TReadbackOpen.E) _) (fzL_cons (fz_sc _ _) fzL_nil))
  · refine bind_b fun x33 h33 => ?_
    refine imp (callQ_says (sg27 h33)) ?_
    refine imp ex_i64_b ?_
    refine cond_b (fun _ => ?_) (fun _ => ?_)
    · exact fun hg => retN rfl (hR _ (Option.some.inj hg).symm) (fzL_cons (fz_nils (E := TReadbackOpen.E) _) (fzL_cons (fz_sc _ _) fzL_nil))
    · refine bind_b fun x34 h34 => ?_
      refine imp (opP_of (show _ = some ((AV.ept [(strA x34.Clearance_Call), (intA x34.Clearance_Kind), (intA x34.Clearance_Value), (strA x34.Clearance_Fix), (intA x34.Time)] 0), []) from (idx_lst (E := TReadbackOpen.E) rfl h34))) ?_
      refine imp (opP_of (show _ = some ((AV.ept [(strA x34.Clearance_Call), (intA x34.Clearance_Kind), (intA x34.Clearance_Value), (strA x34.Clearance_Fix), (intA x34.Time)] 4), []) from rfl)) ?_
      refine imp (opP_of (show _ = some ((intA x34.Time), []) from rfl)) ?_
      refine imp ex_i64_b ?_
      refine cond_b (fun _ => ?_) (fun _ => ?_)
      · exact fun hg => retN rfl (hR _ (Option.some.inj hg).symm) (fzL_cons (fz_nils (E := TReadbackOpen.E) _) (fzL_cons (fz_sc _ _) fzL_nil))
      · refine bind_b fun x35 h35 => ?_
        refine imp (opP_of (show _ = some ((AV.ept [(strA x35.Clearance_Call), (intA x35.Clearance_Kind), (intA x35.Clearance_Value), (strA x35.Clearance_Fix), (intA x35.Time)] 0), []) from (idx_lst (E := TReadbackOpen.E) rfl h35))) ?_
        refine imp (opP_of (show _ = some ((AV.ept [(strA x35.Clearance_Call), (intA x35.Clearance_Kind), (intA x35.Clearance_Value), (strA x35.Clearance_Fix), (intA x35.Time)] 0), []) from rfl)) ?_
        refine imp (opP_of (show _ = some ((AV.agg [(strA x35.Clearance_Call), (intA x35.Clearance_Kind), (intA x35.Clearance_Value), (strA x35.Clearance_Fix)]), []) from rfl)) ?_
        refine imp exA4_b ?_
        refine imp exStr_b ?_
        refine imp ex_i64_b ?_
        refine imp ex_i64_b ?_
        refine imp exStr_b ?_
        refine imp (opP_of (show _ = some ((boolA (!(decide ((⟨x35.Clearance_Call, x35.Clearance_Kind, x35.Clearance_Value, x35.Clearance_Fix⟩ : TClearance) = a1)))), []) from (TClearance.neq24 ((⟨x35.Clearance_Call, x35.Clearance_Kind, x35.Clearance_Value, x35.Clearance_Fix⟩ : TClearance)) (a1)))) ?_
        refine imp exB_b ?_
        refine cond_b (fun _ => ?_) (fun _ => ?_)
        · exact fun hg => retN rfl (hR _ (Option.some.inj hg).symm) (fzL_cons (fz_nils (E := TReadbackOpen.E) _) (fzL_cons (fz_sc _ _) fzL_nil))
        · refine bind_b fun x36 h36 => ?_
          refine imp (callW_D (show PureD _ _ _ _ _ _ (ownV TReadbackOpen.E 161 a0) [(161, ownB TReadbackOpen.E 38 a0)] from cloneC26 h36)) ?_
          refine bind_b fun x37 h37 => ?_
          refine imp (callW_D (show PureD _ _ _ _ _ _ (blkW TReadbackOpen.E 228 x37) [(228, some ⟨encs TReadbackOpen.E x37, 38⟩), (161, none)] from del28 rfl (by first | rfl | (simp (disch := decide) only [mpushs_nil, mpushs_cons, mget_hd, mget_tl, mget_appW_o, mget_appW_n])) h37)) ?_
          exact fun hg => retN rfl (hR _ (Option.some.inj hg).symm) (fzL_cons (fz_bw (E := TReadbackOpen.E) (ty := 38) (l' := x37) _ rfl (by first | rfl | (simp (disch := decide) only [mpushs_nil, mpushs_cons, mget_hd, mget_tl, mget_appW_o, mget_appW_n]))) (fzL_cons (fz_sc _ _) fzL_nil))
theorem sg11 {n : Nat} {a0 : List TReadbackOpen} {a1 : TClearance} {a2 : Int} {t : ρ11} (h : g11 n a0 a1 a2 = some t) : Says Tryd.prog KK.gl 11 [(lstA TReadbackOpen.E a0), (AV.agg [(strA a1.Call), (intA a1.Kind), (intA a1.Value), (strA a1.Fix)]), (intA a2)] ((AV.tup [(lstA TReadbackOpen.E t.1), (intA t.2)])) :=
  says_of_own (by first | rfl | simp [cleans, clean, encs_clean, En.cln]) (by first | rfl | simp [cleans, clean, encs_clean, En.cln]) (F11_own (lstA TReadbackOpen.E a0) a1.Call a1.Kind a1.Value a1.Fix a2 _ (g11_ok n a0 a1 a2 (Ans ((AV.tup [(lstA TReadbackOpen.E t.1), (intA t.2)]))) (fun r e u m h => by rw [e]; exact h) h))
/- skyway/readback.Of -/
theorem B12_0_ok (n : Nat) (a1 : ByteArray) (c5 : Int) (a0 : List TReadbackOpen) (c16 : Int) (v17 : Int) (L90000 : List TClearance) {t : (Int × List TClearance) ⊕ ρ12} (R : AV → Mem → Prop) (N0 : St → Prop) (hR : ∀ r : ρ12, t = (.inr r) → ∀ u m, Ans ((AV.tup [(lstA TClearance.E r.1), (intA r.2)])) u m → R u m) (hN0 : ∀ y : Int × List TClearance, t = (.inl y) → ∀ s' : St, Weak KK 33 0 s' (h12_0 a1 AV.nils c5 (ownV TClearance.E 90000 y.2) (lstA TReadbackOpen.E a0) c16 y.1 [(90000, ownB TClearance.E 24 y.2)]) → N0 s') : S12_0 n a1 c5 a0 c16 v17 L90000 = some t → B12_0 a1 AV.nils c5 (ownV TClearance.E 90000 L90000) (lstA TReadbackOpen.E a0) c16 v17 [(90000, ownB TClearance.E 24 L90000)] R N0 := by
  unfold S12_0 B12_0
  refine cond_b (fun _ => ?_) (fun _ => ?_)
  · refine bind_b fun x41 h41 => ?_
    refine imp (opP_of (show _ = some ((AV.ept [(strA x41.Clearance_Call), (intA x41.Clearance_Kind), (intA x41.Clearance_Value), (strA x41.Clearance_Fix), (intA x41.Time)] 0), []) from (idx_lst (E := TReadbackOpen.E) rfl h41))) ?_
    refine imp (opP_of (show _ = some ((AV.agg [(strA x41.Clearance_Call), (intA x41.Clearance_Kind), (intA x41.Clearance_Value), (strA x41.Clearance_Fix), (intA x41.Time)]), []) from rfl)) ?_
    refine imp exA5_b ?_
    refine imp exStr_b ?_
    refine imp ex_i64_b ?_
    refine imp ex_i64_b ?_
    refine imp exStr_b ?_
    refine imp ex_i64_b ?_
    refine cond_b (fun _ => ?_) (fun _ => ?_)
    · refine imp (opN_of (show _ = some ((blkV TClearance.E 100013 ([(⟨x41.Clearance_Call, x41.Clearance_Kind, x41.Clearance_Value, x41.Clearance_Fix⟩ : TClearance)] : List TClearance)), [(100013, some ⟨encs TClearance.E ([(⟨x41.Clearance_Call, x41.Clearance_Kind, x41.Clearance_Value, x41.Clearance_Fix⟩ : TClearance)] : List TClearance), 24⟩)]) from rfl)) ?_
      refine bind_b fun x42 h42 => ?_
      refine imp (opN_of (show _ = some ((ownV TClearance.E 100014 (L90000 ++ ([(⟨x41.Clearance_Call, x41.Clearance_Kind, x41.Clearance_Value, x41.Clearance_Fix⟩ : TClearance)] : List TClearance))), (appW TClearance.E 100014 90000 24 L90000 ([(⟨x41.Clearance_Call, x41.Clearance_Kind, x41.Clearance_Value, x41.Clearance_Fix⟩ : TClearance)] : List TClearance))) from (app_own (E := TClearance.E) (l' := L90000) (xs := ([(⟨x41.Clearance_Call, x41.Clearance_Kind, x41.Clearance_Value, x41.Clearance_Fix⟩ : TClearance)] : List TClearance)) rfl rfl (cellsOf_blk (E := TClearance.E) (ty := 24) rfl rfl (by first | rfl | (simp (disch := decide) only [mpushs_nil, mpushs_cons, mget_hd, mget_tl, mget_appW_o, mget_appW_n]))) (by simp) rfl (fun hne => Eq.trans (by first | rfl | (simp (disch := decide) only [mpushs_nil, mpushs_cons, mget_hd, mget_tl, mget_appW_o, mget_appW_n])) (ownB_ne hne)) h42))) ?_
      exact fun hg => hN0 _ (Option.some.inj hg).symm _ (weak_mem [(90000, 100014)] rfl rfl rfl (okW_cons (.inl (leV_refl _)) (okW_cons (.inl (leV_refl _)) (okW_cons (.inl (leV_refl _)) (okW_cons (ent_own (E := TClearance.E) (id := 100014) (l' := (L90000 ++ ([(⟨x41.Clearance_Call, x41.Clearance_Kind, x41.Clearance_Value, x41.Clearance_Fix⟩ : TClearance)] : List TClearance))) rfl rfl) (okW_cons (ent_lst (E := TReadbackOpen.E) _ false) (okW_cons (.inl (leV_refl _)) (okW_cons (.inl (leV_refl _)) okW_nil))))))) (okB_cons (okB_own (E := TClearance.E) (ty := 24) (l' := (L90000 ++ ([(⟨x41.Clearance_Call, x41.Clearance_Kind, x41.Clearance_Value, x41.Clearance_Fix⟩ : TClearance)] : List TClearance))) rfl (show mget _ 100014 = _ from (by first | rfl | (simp (disch := decide) only [mpushs_nil, mpushs_cons, mget_hd, mget_tl, mget_appW_o, mget_appW_n])))) okB_nil'))
    · exact fun hg => hN0 _ (Option.some.inj hg).symm _ (weak_mem [(90000, 90000)] rfl rfl rfl (okW_cons (.inl (leV_refl _)) (okW_cons (.inl (leV_refl _)) (okW_cons (.inl (leV_refl _)) (okW_cons (ent_own (E := TClearance.E) (id := 90000) (l' := L90000) rfl rfl) (okW_cons (ent_lst (E := TReadbackOpen.E) _ false) (okW_cons (.inl (leV_refl _)) (okW_cons (.inl (leV_refl _)) okW_nil))))))) (okB_cons (okB_own (E := TClearance.E) (ty := 24) (l' := L90000) rfl (show mget _ 90000 = _ from (by first | rfl | (simp (disch := decide) only [mpushs_nil, mpushs_cons, mget_hd, mget_tl, mget_appW_o, mget_appW_n])))) okB_nil'))
  · exact fun hg => retN rfl (hR _ (Option.some.inj hg).symm) (fzL_cons (fz_own (E := TClearance.E) (ty := 24) (l' := L90000) _ rfl (by first | rfl | (simp (disch := decide) only [mpushs_nil, mpushs_cons, mget_hd, mget_tl, mget_appW_o, mget_appW_n]))) (fzL_cons (fz_sc _ _) fzL_nil))
theorem L12_0_ok (n : Nat) (a1 : ByteArray) (c5 : Int) (a0 : List TReadbackOpen) (c16 : Int) {t : ρ12} (R : AV → Mem → Prop) (hR : ∀ r : ρ12, t = r → ∀ u m, Ans ((AV.tup [(lstA TClearance.E r.1), (intA r.2)])) u m → R u m) (k : Nat) (x : Int × List TClearance) (hx : iterO (fun y : Int × List TClearance => S12_0 n a1 c5 a0 c16 y.1 y.2) k x = some t) {s : St} (hw : Weak KK 33 0 s (h12_0 a1 AV.nils c5 (ownV TClearance.E 90000 x.2) (lstA TReadbackOpen.E a0) c16 x.1 [(90000, ownB TClearance.E 24 x.2)])) : Tri Tryd.prog KK 33 0 (.loop c12_0) s (q12_0 R ) :=
  L12_0 R  (σ := Nat × (Int × List TClearance)) (fun z => iterO (fun y : Int × List TClearance => S12_0 n a1 c5 a0 c16 y.1 y.2) z.1 z.2 = some t) (fun z => a1) (fun z => AV.nils) (fun z => c5) (fun z => (ownV TClearance.E 90000 z.2.2)) (fun z => (lstA TReadbackOpen.E a0)) (fun z => c16) (fun z => z.2.1) (fun z => [(90000, ownB TClearance.E 24 z.2.2)]) (fun z => z.1) (by
    rintro ⟨k, y⟩ h
    cases k with
    | zero => exact (iterO_zero h).elim
    | succ k =>
      obtain ⟨u, h1, h2, h3⟩ := iterO_elim h
      exact B12_0_ok n a1 c5 a0 c16 y.1 y.2 R  _ (fun r e => hR r (h3 _ e).symm)  (fun y' e s' hw => ⟨(k, y'), h2 _ e, Nat.lt_succ_self k, hw⟩) h1) (k, x) hx hw
theorem g12_ok (n : Nat) (a0 : List TReadbackOpen) (a1 : ByteArray) {t : ρ12} (R : AV → Mem → Prop) (hR : ∀ r : ρ12, t = r → ∀ u m, Ans ((AV.tup [(lstA TClearance.E r.1), (intA r.2)])) u m → R u m) : g12 n a0 a1 = some t → F12 (lstA TReadbackOpen.E a0) a1 R := by
  unfold g12 F12
  refine bind_b fun x40 h40 => ?_
  refine imp (callQ_says (sg24 h40)) ?_
  refine imp ex_i64_b ?_
  refine cond_b (fun _ => ?_) (fun _ => ?_)
  · exact fun hg => retN rfl (hR _ (Option.some.inj hg).symm) (fzL_cons (fz_nils (E := TClearance.E) _) (fzL_cons (fz_sc _ _) fzL_nil))
  · refine imp (opP_of (show _ = some ((intA (a0.length : Int)), []) from rfl)) ?_
    refine imp ex_i64_b ?_
    exact fun hg => L12_0_ok n a1 (0) a0 (a0.length : Int) R  hR n _ hg (weak_mem [(90000, 89500)] rfl rfl rfl (okW_cons (.inl (leV_refl _)) (okW_cons (.inl (leV_refl _)) (okW_cons (.inl (leV_refl _)) (okW_cons ent_nils_own (okW_cons (ent_lst (E := TReadbackOpen.E) _ false) (okW_cons (.inl (leV_refl _)) (okW_cons (.inl (leV_refl _)) okW_nil))))))) (okB_cons okB_nil okB_nil'))
theorem sg12 {n : Nat} {a0 : List TReadbackOpen} {a1 : ByteArray} {t : ρ12} (h : g12 n a0 a1 = some t) : Says Tryd.prog KK.gl 12 [(lstA TReadbackOpen.E a0), (strA a1)] ((AV.tup [(lstA TClearance.E t.1), (intA t.2)])) :=
  says_of_own (by first | rfl | simp [cleans, clean, encs_clean, En.cln]) (by first | rfl | simp [cleans, clean, encs_clean, En.cln]) (F12_own (lstA TReadbackOpen.E a0) a1 _ (g12_ok n a0 a1 (Ans ((AV.tup [(lstA TClearance.E t.1), (intA t.2)]))) (fun r e u m h => by rw [e]; exact h) h))
/- slices.Index[[]skyway/api.Clearance,skyway/api.Clearance] -/
theorem B29_0_ok (n : Nat) (a0 : List TClearance) (c4 : Int) (c7 : Int) (k0_0 : ByteArray) (k0_1 : Int) (k0_2 : Int) (k0_3 : ByteArray) (v8 : Int) {t : (Int) ⊕ ρ29} (R : AV → Mem → Prop) (N0 : St → Prop) (hR : ∀ r : ρ29, t = (.inr r) → ∀ u m, Ans ((intA r)) u m → R u m) (hN0 : ∀ y : Int, t = (.inl y) → ∀ s' : St, Weak KK 19 0 s' (h29_0 (lstA TClearance.E a0) c4 c7 y k0_0 k0_1 k0_2 k0_3 []) → N0 s') : S29_0 n a0 c4 c7 k0_0 k0_1 k0_2 k0_3 v8 = some t → B29_0 (lstA TClearance.E a0) c4 c7 v8 k0_0 k0_1 k0_2 k0_3 [] R N0 := by
  unfold S29_0 B29_0
  refine cond_b (fun _ => ?_) (fun _ => ?_)
  · refine bind_b fun x44 h44 => ?_
    refine imp (opP_of (show _ = some ((AV.ept [(strA x44.Call), (intA x44.Kind), (intA x44.Value), (strA x44.Fix)] 0), []) from (idx_lst (E := TClearance.E) rfl h44))) ?_
    refine imp (opP_of (show _ = some ((AV.agg [(strA x44.Call), (intA x44.Kind), (intA x44.Value), (strA x44.Fix)]), []) from rfl)) ?_
    refine imp exA4_b ?_
    refine imp exStr_b ?_
    refine imp ex_i64_b ?_
    refine imp ex_i64_b ?_
    refine imp exStr_b ?_
    refine imp (opP_of (show _ = some ((boolA (decide ((⟨k0_0, k0_1, k0_2, k0_3⟩ : TClearance) = x44))), []) from (TClearance.eql24 ((⟨k0_0, k0_1, k0_2, k0_3⟩ : TClearance)) (x44)))) ?_
    refine imp exB_b ?_
    refine cond_b (fun _ => ?_) (fun _ => ?_)
    · exact fun hg => ret1 (hR _ (Option.some.inj hg).symm) (fz_sc _ _)
    · exact fun hg => hN0 _ (Option.some.inj hg).symm _ (weak_mem [(0, 0)] rfl rfl rfl (okW_cons (ent_lst (E := TClearance.E) _ false) (okW_cons (.inl (leV_refl _)) (okW_cons (.inl (leV_refl _)) (okW_cons (.inl (leV_refl _)) (okW_cons (.inl (leV_refl _)) okW_nil))))) (okB_cons (okB_cells (cs := [(strA k0_0), (intA k0_1), (intA k0_2), (strA k0_3)]) (ty := 24) rfl (show mget _ 0 = _ from (by first | rfl | (simp (disch := decide) only [mpushs_nil, mpushs_cons, mget_hd, mget_tl, mget_appW_o, mget_appW_n])))) okB_nil'))
  · exact fun hg => ret1 (hR _ (Option.some.inj hg).symm) (fz_sc _ _)
theorem L29_0_ok (n : Nat) (a0 : List TClearance) (c4 : Int) (c7 : Int) (k0_0 : ByteArray) (k0_1 : Int) (k0_2 : Int) (k0_3 : ByteArray) {t : ρ29} (R : AV → Mem → Prop) (hR : ∀ r : ρ29, t = r → ∀ u m, Ans ((intA r)) u m → R u m) (k : Nat) (x : Int) (hx : iterO (fun y : Int => S29_0 n a0 c4 c7 k0_0 k0_1 k0_2 k0_3 y) k x = some t) {s : St} (hw : Weak KK 19 0 s (h29_0 (lstA TClearance.E a0) c4 c7 x k0_0 k0_1 k0_2 k0_3 [])) : Tri Tryd.prog KK 19 0 (.loop c29_0) s (q29_0 R ) :=
  L29_0 R  (σ := Nat × (Int)) (fun z => iterO (fun y : Int => S29_0 n a0 c4 c7 k0_0 k0_1 k0_2 k0_3 y) z.1 z.2 = some t) (fun z => (lstA TClearance.E a0)) (fun z => c4) (fun z => c7) (fun z => z.2) (fun z => k0_0) (fun z => k0_1) (fun z => k0_2) (fun z => k0_3) (fun z => []) (fun z => z.1) (by
    rintro ⟨k, y⟩ h
    cases k with
    | zero => exact (iterO_zero h).elim
    | succ k =>
      obtain ⟨u, h1, h2, h3⟩ := iterO_elim h
      exact B29_0_ok n a0 c4 c7 k0_0 k0_1 k0_2 k0_3 y R  _ (fun r e => hR r (h3 _ e).symm)  (fun y' e s' hw => ⟨(k, y'), h2 _ e, Nat.lt_succ_self k, hw⟩) h1) (k, x) hx hw
theorem g29_ok (n : Nat) (a0 : List TClearance) (a1 : TClearance) {t : ρ29} (R : AV → Mem → Prop) (hR : ∀ r : ρ29, t = r → ∀ u m, Ans ((intA r)) u m → R u m) : g29 n a0 a1 = some t → F29 (lstA TClearance.E a0) a1.Call a1.Kind a1.Value a1.Fix R := by
  unfold g29 F29
  refine imp (opP_of (show _ = some ((intA (a0.length : Int)), []) from rfl)) ?_
  refine imp ex_i64_b ?_
  exact fun hg => L29_0_ok n a0 (0) (a0.length : Int) a1.Call a1.Kind a1.Value a1.Fix R  hR n _ hg (weak_mem [(0, 0)] rfl rfl rfl (okW_cons (ent_lst (E := TClearance.E) _ false) (okW_cons (.inl (leV_refl _)) (okW_cons (.inl (leV_refl _)) (okW_cons (.inl (leV_refl _)) (okW_cons (.inl (leV_refl _)) okW_nil))))) (okB_cons (okB_cells (cs := [(strA a1.Call), (intA a1.Kind), (intA a1.Value), (strA a1.Fix)]) (ty := 24) rfl (show mget _ 0 = _ from (by first | rfl | (simp (disch := decide) only [mpushs_nil, mpushs_cons, mget_hd, mget_tl, mget_appW_o, mget_appW_n])))) okB_nil'))
theorem sg29 {n : Nat} {a0 : List TClearance} {a1 : TClearance} {t : ρ29} (h : g29 n a0 a1 = some t) : Says Tryd.prog KK.gl 29 [(lstA TClearance.E a0), (AV.agg [(strA a1.Call), (intA a1.Kind), (intA a1.Value), (strA a1.Fix)])] ((intA t)) :=
  says_of_own (by first | rfl | simp [cleans, clean, encs_clean, En.cln]) (by first | rfl | simp [cleans, clean, encs_clean, En.cln]) (F29_own (lstA TClearance.E a0) a1.Call a1.Kind a1.Value a1.Fix _ (g29_ok n a0 a1 (Ans ((intA t))) (fun r e u m h => by rw [e]; exact h) h))
/- slices.Contains[[]skyway/api.Clearance,skyway/api.Clearance] -/
theorem g13_ok (n : Nat) (a0 : List TClearance) (a1 : TClearance) {t : ρ13} (R : AV → Mem → Prop) (hR : ∀ r : ρ13, t = r → ∀ u m, Ans ((boolA r)) u m → R u m) : g13 n a0 a1 = some t → F13 (lstA TClearance.E a0) a1.Call a1.Kind a1.Value a1.Fix R := by
  unfold g13 F13
  refine bind_b fun x45 h45 => ?_
  refine imp (callQ_says (sg29 h45)) ?_
  refine imp ex_i64_b ?_
  exact fun hg => ret1 (hR _ (Option.some.inj hg).symm) (fz_sc _ _)
theorem sg13 {n : Nat} {a0 : List TClearance} {a1 : TClearance} {t : ρ13} (h : g13 n a0 a1 = some t) : Says Tryd.prog KK.gl 13 [(lstA TClearance.E a0), (AV.agg [(strA a1.Call), (intA a1.Kind), (intA a1.Value), (strA a1.Fix)])] ((boolA t)) :=
  says_of_own (by first | rfl | simp [cleans, clean, encs_clean, En.cln]) (by first | rfl | simp [cleans, clean, encs_clean, En.cln]) (F13_own (lstA TClearance.E a0) a1.Call a1.Kind a1.Value a1.Fix _ (g13_ok n a0 a1 (Ans ((boolA t))) (fun r e u m h => by rw [e]; exact h) h))
/- skyway/skywaykeep3.ReadbackCloses -/
theorem g3_ok (n : Nat) (a0 : List TReadbackOpen) (a1 : TClearance) (a2 : Int) (a3 : Int) {t : ρ3} (R : AV → Mem → Prop) (hR : ∀ r : ρ3, t = r → ∀ u m, Ans ((boolA r)) u m → R u m) : g3 n a0 a1 a2 a3 = some t → F3 (lstA TReadbackOpen.E a0) a1.Call a1.Kind a1.Value a1.Fix a2 a3 R := by
  unfold g3 F3
  refine bind_b fun x0 h0 => ?_
  refine imp (callQ_says (sg8 h0)) ?_
  refine imp exB_b ?_
  refine cond_b (fun _ => ?_) (fun _ => ?_)
  · exact fun hg => ret1 (hR _ (Option.some.inj hg).symm) (fz_sc _ _)
  · refine bind_b fun x29 h29 => ?_
    refine imp (callQ_says (sg9 h29)) ?_
    refine imp exT2_b ?_
    refine imp ex_i64_b ?_
    refine cond_b (fun _ => ?_) (fun _ => ?_)
    · refine imp (opP_of (show _ = some ((intA (x29.1.length : Int)), []) from rfl)) ?_
      refine imp ex_i64_b ?_
      exact fun hg => ret1 (hR _ (Option.some.inj hg).symm) (fz_sc _ _)
    · refine bind_b fun x31 h31 => ?_
      refine imp (callQ_says (sg10 h31)) ?_
      refine imp ex_i64_b ?_
      refine cond_b (fun _ => ?_) (fun _ => ?_)
      · exact fun hg => ret1 (hR _ (Option.some.inj hg).symm) (fz_sc _ _)
      · refine bind_b fun x38 h38 => ?_
        refine imp (callQ_says (sg11 h38)) ?_
        refine imp exT2_b ?_
        refine imp ex_i64_b ?_
        refine cond_b (fun _ => ?_) (fun _ => ?_)
        · refine cond_b (fun _ => ?_) (fun _ => ?_)
          · refine imp (opP_of (show _ = some ((intA (x38.1.length : Int)), []) from rfl)) ?_
            refine imp ex_i64_b ?_
            exact fun hg => ret1 (hR _ (Option.some.inj hg).symm) (fz_sc _ _)
          · exact fun hg => ret1 (hR _ (Option.some.inj hg).symm) (fz_sc _ _)
        · refine bind_b fun x39 h39 => ?_
          refine imp (callQ_says (sg11 h39)) ?_
          refine imp exT2_b ?_
          refine imp ex_i64_b ?_
          refine bind_b fun x43 h43 => ?_
          refine imp (callQ_says (sg12 h43)) ?_
          refine imp exT2_b ?_
          refine imp ex_i64_b ?_
          refine cond_b (fun _ => ?_) (fun _ => ?_)
          · refine cond_b (fun _ => ?_) (fun _ => ?_)
            · refine cond_b (fun _ => ?_) (fun _ => ?_)
              · refine bind_b fun x46 h46 => ?_
                refine imp (callQ_says (sg13 h46)) ?_
                refine imp exB_b ?_
                refine cond_b (fun _ => ?_) (fun _ => ?_)
                · refine imp (opP_of (show _ = some ((intA (x38.1.length : Int)), []) from rfl)) ?_
                  refine imp ex_i64_b ?_
                  refine imp (opP_of (show _ = some ((intA (x29.1.length : Int)), []) from rfl)) ?_
                  refine imp ex_i64_b ?_
                  exact fun hg => ret1 (hR _ (Option.some.inj hg).symm) (fz_sc _ _)
                · exact fun hg => ret1 (hR _ (Option.some.inj hg).symm) (fz_sc _ _)
              · exact fun hg => ret1 (hR _ (Option.some.inj hg).symm) (fz_sc _ _)
            · exact fun hg => ret1 (hR _ (Option.some.inj hg).symm) (fz_sc _ _)
          · exact fun hg => ret1 (hR _ (Option.some.inj hg).symm) (fz_sc _ _)
theorem sg3 {n : Nat} {a0 : List TReadbackOpen} {a1 : TClearance} {a2 : Int} {a3 : Int} {t : ρ3} (h : g3 n a0 a1 a2 a3 = some t) : Says Tryd.prog KK.gl 3 [(lstA TReadbackOpen.E a0), (AV.agg [(strA a1.Call), (intA a1.Kind), (intA a1.Value), (strA a1.Fix)]), (intA a2), (intA a3)] ((boolA t)) :=
  says_of_own (by first | rfl | simp [cleans, clean, encs_clean, En.cln]) (by first | rfl | simp [cleans, clean, encs_clean, En.cln]) (F3_own (lstA TReadbackOpen.E a0) a1.Call a1.Kind a1.Value a1.Fix a2 a3 _ (g3_ok n a0 a1 a2 a3 (Ans ((boolA t))) (fun r e u m h => by rw [e]; exact h) h))
/- skyway/readback.Lapse -/
theorem B14_0_ok (n : Nat) (a1 : Int) (c6 : Int) (a0 : List TReadbackOpen) (c21 : Int) (v22 : Int) (L90000 : List TReadbackOpen) (L90001 : List TClearance) {t : (Int × List TReadbackOpen × List TClearance) ⊕ ρ14} (R : AV → Mem → Prop) (N0 : St → Prop) (hR : ∀ r : ρ14, t = (.inr r) → ∀ u m, Ans ((AV.tup [(lstA TReadbackOpen.E r.1), (lstA TClearance.E r.2.1), (intA r.2.2)])) u m → R u m) (hN0 : ∀ y : Int × List TReadbackOpen × List TClearance, t = (.inl y) → ∀ s' : St, Weak KK 43 0 s' (h14_0 a1 AV.nils AV.nils c6 (ownV TReadbackOpen.E 90000 y.2.1) (ownV TClearance.E 90001 y.2.2) (lstA TReadbackOpen.E a0) c21 y.1 [(90000, ownB TReadbackOpen.E 38 y.2.1), (90001, ownB TClearance.E 24 y.2.2)]) → N0 s') : S14_0 n a1 c6 a0 c21 v22 L90000 L90001 = some t → B14_0 a1 AV.nils AV.nils c6 (ownV TReadbackOpen.E 90000 L90000) (ownV TClearance.E 90001 L90001) (lstA TReadbackOpen.E a0) c21 v22 [(90000, ownB TReadbackOpen.E 38 L90000), (90001, ownB TClearance.E 24 L90001)] R N0 := by
  unfold S14_0 B14_0
  refine cond_b (fun _ => ?_) (fun _ => ?_)
  · refine bind_b fun x50 h50 => ?_
    refine imp (opP_of (show _ = some ((AV.ept [(strA x50.Clearance_Call), (intA x50.Clearance_Kind), (intA x50.Clearance_Value), (strA x50.Clearance_Fix), (intA x50.Time)] 0), []) from (idx_lst (E := TReadbackOpen.E) rfl h50))) ?_
    refine imp (opP_of (show _ = some ((AV.agg [(strA x50.Clearance_Call), (intA x50.Clearance_Kind), (intA x50.Clearance_Value), (strA x50.Clearance_Fix), (intA x50.Time)]), []) from rfl)) ?_
    refine imp exA5_b ?_
    refine imp exStr_b ?_
    refine imp ex_i64_b ?_
    refine imp ex_i64_b ?_
    refine imp exStr_b ?_
    refine imp ex_i64_b ?_
    refine cond_b (fun _ => ?_) (fun _ => ?_)
    · refine imp (opN_of (show _ = some ((blkV TClearance.E 100013 ([(⟨x50.Clearance_Call, x50.Clearance_Kind, x50.Clearance_Value, x50.Clearance_Fix⟩ : TClearance)] : List TClearance)), [(100013, some ⟨encs TClearance.E ([(⟨x50.Clearance_Call, x50.Clearance_Kind, x50.Clearance_Value, x50.Clearance_Fix⟩ : TClearance)] : List TClearance), 24⟩)]) from rfl)) ?_
      refine bind_b fun x51 h51 => ?_
      refine imp (opN_of (show _ = some ((ownV TClearance.E 100014 (L90001 ++ ([(⟨x50.Clearance_Call, x50.Clearance_Kind, x50.Clearance_Value, x50.Clearance_Fix⟩ : TClearance)] : List TClearance))), (appW TClearance.E 100014 90001 24 L90001 ([(⟨x50.Clearance_Call, x50.Clearance_Kind, x50.Clearance_Value, x50.Clearance_Fix⟩ : TClearance)] : List TClearance))) from (app_own (E := TClearance.E) (l' := L90001) (xs := ([(⟨x50.Clearance_Call, x50.Clearance_Kind, x50.Clearance_Value, x50.Clearance_Fix⟩ : TClearance)] : List TClearance)) rfl rfl (cellsOf_blk (E := TClearance.E) (ty := 24) rfl rfl (by first | rfl | (simp (disch := decide) only [mpushs_nil, mpushs_cons, mget_hd, mget_tl, mget_appW_o, mget_appW_n]))) (by simp) rfl (fun hne => Eq.trans (by first | rfl | (simp (disch := decide) only [mpushs_nil, mpushs_cons, mget_hd, mget_tl, mget_appW_o, mget_appW_n])) (ownB_ne hne)) h51))) ?_
      exact fun hg => hN0 _ (Option.some.inj hg).symm _ (weak_mem [(90000, 90000), (90001, 100014)] rfl rfl rfl (okW_cons (.inl (leV_refl _)) (okW_cons (.inl (leV_refl _)) (okW_cons (.inl (leV_refl _)) (okW_cons (.inl (leV_refl _)) (okW_cons (ent_own (E := TReadbackOpen.E) (id := 90000) (l' := L90000) rfl rfl) (okW_cons (ent_own (E := TClearance.E) (id := 100014) (l' := (L90001 ++ ([(⟨x50.Clearance_Call, x50.Clearance_Kind, x50.Clearance_Value, x50.Clearance_Fix⟩ : TClearance)] : List TClearance))) rfl rfl) (okW_cons (ent_lst (E := TReadbackOpen.E) _ false) (okW_cons (.inl (leV_refl _)) (okW_cons (.inl (leV_refl _)) okW_nil))))))))) (okB_cons (okB_own (E := TReadbackOpen.E) (ty := 38) (l' := L90000) rfl (show mget _ 90000 = _ from (by first | rfl | (simp (disch := decide) only [mpushs_nil, mpushs_cons, mget_hd, mget_tl, mget_appW_o, mget_appW_n])))) (okB_cons (okB_own (E := TClearance.E) (ty := 24) (l' := (L90001 ++ ([(⟨x50.Clearance_Call, x50.Clearance_Kind, x50.Clearance_Value, x50.Clearance_Fix⟩ : TClearance)] : List TClearance))) rfl (show mget _ 100014 = _ from (by first | rfl | (simp (disch := decide) only [mpushs_nil, mpushs_cons, mget_hd, mget_tl, mget_appW_o, mget_appW_n])))) okB_nil')))
    · refine imp (opN_of (show _ = some ((blkV TReadbackOpen.E 100012 ([x50] : List TReadbackOpen)), [(100012, some ⟨encs TReadbackOpen.E ([x50] : List TReadbackOpen), 38⟩)]) from rfl)) ?_
      refine bind_b fun x52 h52 => ?_
      refine imp (opN_of (show _ = some ((ownV TReadbackOpen.E 100013 (L90000 ++ ([x50] : List TReadbackOpen))), (appW TReadbackOpen.E 100013 90000 38 L90000 ([x50] : List TReadbackOpen))) from (app_own (E := TReadbackOpen.E) (l' := L90000) (xs := ([x50] : List TReadbackOpen)) rfl rfl (cellsOf_blk (E := TReadbackOpen.E) (ty := 38) rfl rfl (by first | rfl | (simp (disch := decide) only [mpushs_nil, mpushs_cons, mget_hd, mget_tl, mget_appW_o, mget_appW_n]))) (by simp) rfl (fun hne => Eq.trans (by first | rfl | (simp (disch := decide) only [mpushs_nil, mpushs_cons, mget_hd, mget_tl, mget_appW_o, mget_appW_n])) (ownB_ne hne)) h52))) ?_
      exact fun hg => hN0 _ (Option.some.inj hg).symm _ (weak_mem [(90000, 100013), (90001, 90001)] rfl rfl rfl (okW_cons (.inl (leV_refl _)) (okW_cons (.inl (leV_refl _)) (okW_cons (.inl (leV_refl _)) (okW_cons (.inl (leV_refl _)) (okW_cons (ent_own (E := TReadbackOpen.E) (id := 100013) (l' := (L90000 ++ ([x50] : List TReadbackOpen))) rfl rfl) (okW_cons (ent_own (E := TClearance.E) (id := 90001) (l' := L90001) rfl rfl) (okW_cons (ent_lst (E := TReadbackOpen.E) _ false) (okW_cons (.inl (leV_refl _)) (okW_cons (.inl (leV_refl _)) okW_nil))))))))) (okB_cons (okB_own (E := TReadbackOpen.E) (ty := 38) (l' := (L90000 ++ ([x50] : List TReadbackOpen))) rfl (show mget _ 100013 = _ from (by first | rfl | (simp (disch := decide) only [mpushs_nil, mpushs_cons, mget_hd, mget_tl, mget_appW_o, mget_appW_n])))) (okB_cons (okB_own (E := TClearance.E) (ty := 24) (l' := L90001) rfl (show mget _ 90001 = _ from (by first | rfl | (simp (disch := decide) only [mpushs_nil, mpushs_cons, mget_hd, mget_tl, mget_appW_o, mget_appW_n])))) okB_nil')))
  · exact fun hg => retN rfl (hR _ (Option.some.inj hg).symm) (fzL_cons (fz_own (E := TReadbackOpen.E) (ty := 38) (l' := L90000) _ rfl (by first | rfl | (simp (disch := decide) only [mpushs_nil, mpushs_cons, mget_hd, mget_tl, mget_appW_o, mget_appW_n]))) (fzL_cons (fz_own (E := TClearance.E) (ty := 24) (l' := L90001) _ rfl (by first | rfl | (simp (disch := decide) only [mpushs_nil, mpushs_cons, mget_hd, mget_tl, mget_appW_o, mget_appW_n]))) (fzL_cons (fz_sc _ _) fzL_nil)))
theorem L14_0_ok (n : Nat) (a1 : Int) (c6 : Int) (a0 : List TReadbackOpen) (c21 : Int) {t : ρ14} (R : AV → Mem → Prop) (hR : ∀ r : ρ14, t = r → ∀ u m, Ans ((AV.tup [(lstA TReadbackOpen.E r.1), (lstA TClearance.E r.2.1), (intA r.2.2)])) u m → R u m) (k : Nat) (x : Int × List TReadbackOpen × List TClearance) (hx : iterO (fun y : Int × List TReadbackOpen × List TClearance => S14_0 n a1 c6 a0 c21 y.1 y.2.1 y.2.2) k x = some t) {s : St} (hw : Weak KK 43 0 s (h14_0 a1 AV.nils AV.nils c6 (ownV TReadbackOpen.E 90000 x.2.1) (ownV TClearance.E 90001 x.2.2) (lstA TReadbackOpen.E a0) c21 x.1 [(90000, ownB TReadbackOpen.E 38 x.2.1), (90001, ownB TClearance.E 24 x.2.2)])) : Tri Tryd.prog KK 43 0 (.loop c14_0) s (q14_0 R ) :=
  L14_0 R  (σ := Nat × (Int × List TReadbackOpen × List TClearance)) (fun z => iterO (fun y : Int × List TReadbackOpen × List TClearance => S14_0 n a1 c6 a0 c21 y.1 y.2.1 y.2.2) z.1 z.2 = some t) (fun z => a1) (fun z => AV.nils) (fun z => AV.nils) (fun z => c6) (fun z => (ownV TReadbackOpen.E 90000 z.2.2.1)) (fun z => (ownV TClearance.E 90001 z.2.2.2)) (fun z => (lstA TReadbackOpen.E a0)) (fun z => c21) (fun z => z.2.1) (fun z => [(90000, ownB TReadbackOpen.E 38 z.2.2.1), (90001, ownB TClearance.E 24 z.2.2.2)]) (fun z => z.1) (by
    rintro ⟨k, y⟩ h
    cases k with
    | zero => exact (iterO_zero h).elim
    | succ k =>
      obtain ⟨u, h1, h2, h3⟩ := iterO_elim h
      exact B14_0_ok n a1 c6 a0 c21 y.1 y.2.1 y.2.2 R  _ (fun r e => hR r (h3 _ e).symm)  (fun y' e s' hw => ⟨(k, y'), h2 _ e, Nat.lt_succ_self k, hw⟩) h1) (k, x) hx hw
theorem g14_ok (n : Nat) (a0 : List TReadbackOpen) (a1 : Int) {t : ρ14} (R : AV → Mem → Prop) (hR : ∀ r : ρ14, t = r → ∀ u m, Ans ((AV.tup [(lstA TReadbackOpen.E r.1), (lstA TClearance.E r.2.1), (intA r.2.2)])) u m → R u m) : g14 n a0 a1 = some t → F14 (lstA TReadbackOpen.E a0) a1 R := by
  unfold g14 F14
  refine bind_b fun x48 h48 => ?_
  refine imp (callQ_says (sg24 h48)) ?_
  refine imp ex_i64_b ?_
  refine cond_b (fun _ => ?_) (fun _ => ?_)
  · exact fun hg => retN rfl (hR _ (Option.some.inj hg).symm) (fzL_cons (fz_nils (E := TReadbackOpen.E) _) (fzL_cons (fz_nils (E := TClearance.E) _) (fzL_cons (fz_sc _ _) fzL_nil)))
  · refine bind_b fun x49 h49 => ?_
    refine imp (callQ_says (sg30 h49)) ?_
    refine imp exB_b ?_
    refine cond_b (fun _ => ?_) (fun _ => ?_)
    · exact fun hg => retN rfl (hR _ (Option.some.inj hg).symm) (fzL_cons (fz_nils (E := TReadbackOpen.E) _) (fzL_cons (fz_nils (E := TClearance.E) _) (fzL_cons (fz_sc _ _) fzL_nil)))
    · refine imp (opP_of (show _ = some ((intA (a0.length : Int)), []) from rfl)) ?_
      refine imp ex_i64_b ?_
      exact fun hg => L14_0_ok n a1 (0) a0 (a0.length : Int) R  hR n _ hg (weak_mem [(90000, 89500), (90001, 89501)] rfl rfl rfl (okW_cons (.inl (leV_refl _)) (okW_cons (.inl (leV_refl _)) (okW_cons (.inl (leV_refl _)) (okW_cons (.inl (leV_refl _)) (okW_cons ent_nils_own (okW_cons ent_nils_own (okW_cons (ent_lst (E := TReadbackOpen.E) _ false) (okW_cons (.inl (leV_refl _)) (okW_cons (.inl (leV_refl _)) okW_nil))))))))) (okB_cons okB_nil (okB_cons okB_nil okB_nil')))
theorem sg14 {n : Nat} {a0 : List TReadbackOpen} {a1 : Int} {t : ρ14} (h : g14 n a0 a1 = some t) : Says Tryd.prog KK.gl 14 [(lstA TReadbackOpen.E a0), (intA a1)] ((AV.tup [(lstA TReadbackOpen.E t.1), (lstA TClearance.E t.2.1), (intA t.2.2)])) :=
  says_of_own (by first | rfl | simp [cleans, clean, encs_clean, En.cln]) (by first | rfl | simp [cleans, clean, encs_clean, En.cln]) (F14_own (lstA TReadbackOpen.E a0) a1 _ (g14_ok n a0 a1 (Ans ((AV.tup [(lstA TReadbackOpen.E t.1), (lstA TClearance.E t.2.1), (intA t.2.2)]))) (fun r e u m h => by rw [e]; exact h) h))
/- slices.Index[[]skyway/api.ReadbackOpen,skyway/api.ReadbackOpen] -/
theorem B31_0_ok (n : Nat) (a0 : List TReadbackOpen) (c4 : Int) (c7 : Int) (k0_0 : ByteArray) (k0_1 : Int) (k0_2 : Int) (k0_3 : ByteArray) (k0_4 : Int) (v8 : Int) {t : (Int) ⊕ ρ31} (R : AV → Mem → Prop) (N0 : St → Prop) (hR : ∀ r : ρ31, t = (.inr r) → ∀ u m, Ans ((intA r)) u m → R u m) (hN0 : ∀ y : Int, t = (.inl y) → ∀ s' : St, Weak KK 19 0 s' (h31_0 (lstA TReadbackOpen.E a0) c4 c7 y k0_0 k0_1 k0_2 k0_3 k0_4 []) → N0 s') : S31_0 n a0 c4 c7 k0_0 k0_1 k0_2 k0_3 k0_4 v8 = some t → B31_0 (lstA TReadbackOpen.E a0) c4 c7 v8 k0_0 k0_1 k0_2 k0_3 k0_4 [] R N0 := by
  unfold S31_0 B31_0
  refine cond_b (fun _ => ?_) (fun _ => ?_)
  · refine bind_b fun x56 h56 => ?_
    refine imp (opP_of (show _ = some ((AV.ept [(strA x56.Clearance_Call), (intA x56.Clearance_Kind), (intA x56.Clearance_Value), (strA x56.Clearance_Fix), (intA x56.Time)] 0), []) from (idx_lst (E := TReadbackOpen.E) rfl h56))) ?_
    refine imp (opP_of (show _ = some ((AV.agg [(strA x56.Clearance_Call), (intA x56.Clearance_Kind), (intA x56.Clearance_Value), (strA x56.Clearance_Fix), (intA x56.Time)]), []) from rfl)) ?_
    refine imp exA5_b ?_
    refine imp exStr_b ?_
    refine imp ex_i64_b ?_
    refine imp ex_i64_b ?_
    refine imp exStr_b ?_
    refine imp ex_i64_b ?_
    refine imp (opP_of (show _ = some ((boolA (decide ((⟨k0_0, k0_1, k0_2, k0_3, k0_4⟩ : TReadbackOpen) = x56))), []) from (TReadbackOpen.eql38 ((⟨k0_0, k0_1, k0_2, k0_3, k0_4⟩ : TReadbackOpen)) (x56)))) ?_
    refine imp exB_b ?_
    refine cond_b (fun _ => ?_) (fun _ => ?_)
    · exact fun hg => ret1 (hR _ (Option.some.inj hg).symm) (fz_sc _ _)
    · exact fun hg => hN0 _ (Option.some.inj hg).symm _ (weak_mem [(0, 0)] rfl rfl rfl (okW_cons (ent_lst (E := TReadbackOpen.E) _ false) (okW_cons (.inl (leV_refl _)) (okW_cons (.inl (leV_refl _)) (okW_cons (.inl (leV_refl _)) (okW_cons (.inl (leV_refl _)) okW_nil))))) (okB_cons (okB_cells (cs := [(strA k0_0), (intA k0_1), (intA k0_2), (strA k0_3), (intA k0_4)]) (ty := 38) rfl (show mget _ 0 = _ from (by first | rfl | (simp (disch := decide) only [mpushs_nil, mpushs_cons, mget_hd, mget_tl, mget_appW_o, mget_appW_n])))) okB_nil'))
  · exact fun hg => ret1 (hR _ (Option.some.inj hg).symm) (fz_sc _ _)
theorem L31_0_ok (n : Nat) (a0 : List TReadbackOpen) (c4 : Int) (c7 : Int) (k0_0 : ByteArray) (k0_1 : Int) (k0_2 : Int) (k0_3 : ByteArray) (k0_4 : Int) {t : ρ31} (R : AV → Mem → Prop) (hR : ∀ r : ρ31, t = r → ∀ u m, Ans ((intA r)) u m → R u m) (k : Nat) (x : Int) (hx : iterO (fun y : Int => S31_0 n a0 c4 c7 k0_0 k0_1 k0_2 k0_3 k0_4 y) k x = some t) {s : St} (hw : Weak KK 19 0 s (h31_0 (lstA TReadbackOpen.E a0) c4 c7 x k0_0 k0_1 k0_2 k0_3 k0_4 [])) : Tri Tryd.prog KK 19 0 (.loop c31_0) s (q31_0 R ) :=
  L31_0 R  (σ := Nat × (Int)) (fun z => iterO (fun y : Int => S31_0 n a0 c4 c7 k0_0 k0_1 k0_2 k0_3 k0_4 y) z.1 z.2 = some t) (fun z => (lstA TReadbackOpen.E a0)) (fun z => c4) (fun z => c7) (fun z => z.2) (fun z => k0_0) (fun z => k0_1) (fun z => k0_2) (fun z => k0_3) (fun z => k0_4) (fun z => []) (fun z => z.1) (by
    rintro ⟨k, y⟩ h
    cases k with
    | zero => exact (iterO_zero h).elim
    | succ k =>
      obtain ⟨u, h1, h2, h3⟩ := iterO_elim h
      exact B31_0_ok n a0 c4 c7 k0_0 k0_1 k0_2 k0_3 k0_4 y R  _ (fun r e => hR r (h3 _ e).symm)  (fun y' e s' hw => ⟨(k, y'), h2 _ e, Nat.lt_succ_self k, hw⟩) h1) (k, x) hx hw
theorem g31_ok (n : Nat) (a0 : List TReadbackOpen) (a1 : TReadbackOpen) {t : ρ31} (R : AV → Mem → Prop) (hR : ∀ r : ρ31, t = r → ∀ u m, Ans ((intA r)) u m → R u m) : g31 n a0 a1 = some t → F31 (lstA TReadbackOpen.E a0) a1.Clearance_Call a1.Clearance_Kind a1.Clearance_Value a1.Clearance_Fix a1.Time R := by
  unfold g31 F31
  refine imp (opP_of (show _ = some ((intA (a0.length : Int)), []) from rfl)) ?_
  refine imp ex_i64_b ?_
  exact fun hg => L31_0_ok n a0 (0) (a0.length : Int) a1.Clearance_Call a1.Clearance_Kind a1.Clearance_Value a1.Clearance_Fix a1.Time R  hR n _ hg (weak_mem [(0, 0)] rfl rfl rfl (okW_cons (ent_lst (E := TReadbackOpen.E) _ false) (okW_cons (.inl (leV_refl _)) (okW_cons (.inl (leV_refl _)) (okW_cons (.inl (leV_refl _)) (okW_cons (.inl (leV_refl _)) okW_nil))))) (okB_cons (okB_cells (cs := [(strA a1.Clearance_Call), (intA a1.Clearance_Kind), (intA a1.Clearance_Value), (strA a1.Clearance_Fix), (intA a1.Time)]) (ty := 38) rfl (show mget _ 0 = _ from (by first | rfl | (simp (disch := decide) only [mpushs_nil, mpushs_cons, mget_hd, mget_tl, mget_appW_o, mget_appW_n])))) okB_nil'))
theorem sg31 {n : Nat} {a0 : List TReadbackOpen} {a1 : TReadbackOpen} {t : ρ31} (h : g31 n a0 a1 = some t) : Says Tryd.prog KK.gl 31 [(lstA TReadbackOpen.E a0), (AV.agg [(strA a1.Clearance_Call), (intA a1.Clearance_Kind), (intA a1.Clearance_Value), (strA a1.Clearance_Fix), (intA a1.Time)])] ((intA t)) :=
  says_of_own (by first | rfl | simp [cleans, clean, encs_clean, En.cln]) (by first | rfl | simp [cleans, clean, encs_clean, En.cln]) (F31_own (lstA TReadbackOpen.E a0) a1.Clearance_Call a1.Clearance_Kind a1.Clearance_Value a1.Clearance_Fix a1.Time _ (g31_ok n a0 a1 (Ans ((intA t))) (fun r e u m h => by rw [e]; exact h) h))
/- slices.Contains[[]skyway/api.ReadbackOpen,skyway/api.ReadbackOpen] -/
theorem g15_ok (n : Nat) (a0 : List TReadbackOpen) (a1 : TReadbackOpen) {t : ρ15} (R : AV → Mem → Prop) (hR : ∀ r : ρ15, t = r → ∀ u m, Ans ((boolA r)) u m → R u m) : g15 n a0 a1 = some t → F15 (lstA TReadbackOpen.E a0) a1.Clearance_Call a1.Clearance_Kind a1.Clearance_Value a1.Clearance_Fix a1.Time R := by
  unfold g15 F15
  refine bind_b fun x57 h57 => ?_
  refine imp (callQ_says (sg31 h57)) ?_
  refine imp ex_i64_b ?_
  exact fun hg => ret1 (hR _ (Option.some.inj hg).symm) (fz_sc _ _)
theorem sg15 {n : Nat} {a0 : List TReadbackOpen} {a1 : TReadbackOpen} {t : ρ15} (h : g15 n a0 a1 = some t) : Says Tryd.prog KK.gl 15 [(lstA TReadbackOpen.E a0), (AV.agg [(strA a1.Clearance_Call), (intA a1.Clearance_Kind), (intA a1.Clearance_Value), (strA a1.Clearance_Fix), (intA a1.Time)])] ((boolA t)) :=
  says_of_own (by first | rfl | simp [cleans, clean, encs_clean, En.cln]) (by first | rfl | simp [cleans, clean, encs_clean, En.cln]) (F15_own (lstA TReadbackOpen.E a0) a1.Clearance_Call a1.Clearance_Kind a1.Clearance_Value a1.Clearance_Fix a1.Time _ (g15_ok n a0 a1 (Ans ((boolA t))) (fun r e u m h => by rw [e]; exact h) h))
/- skyway/skywaykeep3.ReadbackWaits -/
theorem B4_0_ok (n : Nat) (a0 : List TReadbackOpen) (a1 : Int) (c4 : Bool) (c5 : List TReadbackOpen) (c6 : List TClearance) (c38 : Int) (v39 : Int) {t : (Int) ⊕ ρ4} (R : AV → Mem → Prop) (N0 : St → Prop) (hR : ∀ r : ρ4, t = (.inr r) → ∀ u m, Ans ((boolA r)) u m → R u m) (hN0 : ∀ y : Int, t = (.inl y) → ∀ s' : St, Weak KK 67 0 s' (h4_0 (lstA TReadbackOpen.E a0) a1 c4 (lstA TReadbackOpen.E c5) (lstA TClearance.E c6) (lstA TReadbackOpen.E a0) c38 y []) → N0 s') : S4_0 n a0 a1 c4 c5 c6 c38 v39 = some t → B4_0 (lstA TReadbackOpen.E a0) a1 c4 (lstA TReadbackOpen.E c5) (lstA TClearance.E c6) (lstA TReadbackOpen.E a0) c38 v39 [] R N0 := by
  unfold S4_0 B4_0
  refine cond_b (fun _ => ?_) (fun _ => ?_)
  · refine bind_b fun x54 h54 => ?_
    refine imp (opP_of (show _ = some ((AV.ept [(strA x54.Clearance_Call), (intA x54.Clearance_Kind), (intA x54.Clearance_Value), (strA x54.Clearance_Fix), (intA x54.Time)] 0), []) from (idx_lst (E := TReadbackOpen.E) rfl h54))) ?_
    refine imp (opP_of (show _ = some ((AV.agg [(strA x54.Clearance_Call), (intA x54.Clearance_Kind), (intA x54.Clearance_Value), (strA x54.Clearance_Fix), (intA x54.Time)]), []) from rfl)) ?_
    refine imp exA5_b ?_
    refine imp exStr_b ?_
    refine imp ex_i64_b ?_
    refine imp ex_i64_b ?_
    refine imp exStr_b ?_
    refine imp ex_i64_b ?_
    refine bind_b fun x55 h55 => ?_
    refine imp (callQ_says (sg11 h55)) ?_
    refine imp exT2_b ?_
    refine imp ex_i64_b ?_
    refine bind_b fun x58 h58 => ?_
    refine imp (callQ_says (sg15 h58)) ?_
    refine imp exB_b ?_
    refine imp (opP_of (show _ = some ((boolA (!((x55.2 == (0)) == x58))), []) from (by kernel_rfl))) ?_
    refine imp exB_b ?_
    refine cond_b (fun _ => ?_) (fun _ => ?_)
    · exact fun hg => ret1 (hR _ (Option.some.inj hg).symm) (fz_sc _ _)
    · refine bind_b fun x59 h59 => ?_
      refine imp (callQ_says (sg13 h59)) ?_
      refine imp exB_b ?_
      refine imp (opP_of (show _ = some ((boolA (!((x55.2 == (21)) == x59))), []) from (by kernel_rfl))) ?_
      refine imp exB_b ?_
      refine cond_b (fun _ => ?_) (fun _ => ?_)
      · exact fun hg => ret1 (hR _ (Option.some.inj hg).symm) (fz_sc _ _)
      · exact fun hg => hN0 _ (Option.some.inj hg).symm _ (weak_mem [] rfl rfl rfl (okW_cons (ent_lst (E := TReadbackOpen.E) _ false) (okW_cons (.inl (leV_refl _)) (okW_cons (.inl (leV_refl _)) (okW_cons (ent_lst (E := TReadbackOpen.E) _ false) (okW_cons (ent_lst (E := TClearance.E) _ false) (okW_cons (ent_lst (E := TReadbackOpen.E) _ false) (okW_cons (.inl (leV_refl _)) (okW_cons (.inl (leV_refl _)) okW_nil)))))))) okB_nil')
  · exact fun hg => ret1 (hR _ (Option.some.inj hg).symm) (fz_sc _ _)
theorem L4_0_ok (n : Nat) (a0 : List TReadbackOpen) (a1 : Int) (c4 : Bool) (c5 : List TReadbackOpen) (c6 : List TClearance) (c38 : Int) {t : ρ4} (R : AV → Mem → Prop) (hR : ∀ r : ρ4, t = r → ∀ u m, Ans ((boolA r)) u m → R u m) (k : Nat) (x : Int) (hx : iterO (fun y : Int => S4_0 n a0 a1 c4 c5 c6 c38 y) k x = some t) {s : St} (hw : Weak KK 67 0 s (h4_0 (lstA TReadbackOpen.E a0) a1 c4 (lstA TReadbackOpen.E c5) (lstA TClearance.E c6) (lstA TReadbackOpen.E a0) c38 x [])) : Tri Tryd.prog KK 67 0 (.loop c4_0) s (q4_0 R ) :=
  L4_0 R  (σ := Nat × (Int)) (fun z => iterO (fun y : Int => S4_0 n a0 a1 c4 c5 c6 c38 y) z.1 z.2 = some t) (fun z => (lstA TReadbackOpen.E a0)) (fun z => a1) (fun z => c4) (fun z => (lstA TReadbackOpen.E c5)) (fun z => (lstA TClearance.E c6)) (fun z => (lstA TReadbackOpen.E a0)) (fun z => c38) (fun z => z.2) (fun z => []) (fun z => z.1) (by
    rintro ⟨k, y⟩ h
    cases k with
    | zero => exact (iterO_zero h).elim
    | succ k =>
      obtain ⟨u, h1, h2, h3⟩ := iterO_elim h
      exact B4_0_ok n a0 a1 c4 c5 c6 c38 y R  _ (fun r e => hR r (h3 _ e).symm)  (fun y' e s' hw => ⟨(k, y'), h2 _ e, Nat.lt_succ_self k, hw⟩) h1) (k, x) hx hw
theorem g4_ok (n : Nat) (a0 : List TReadbackOpen) (a1 : Int) {t : ρ4} (R : AV → Mem → Prop) (hR : ∀ r : ρ4, t = r → ∀ u m, Ans ((boolA r)) u m → R u m) : g4 n a0 a1 = some t → F4 (lstA TReadbackOpen.E a0) a1 R := by
  unfold g4 F4
  refine bind_b fun x47 h47 => ?_
  refine imp (callQ_says (sg8 h47)) ?_
  refine imp exB_b ?_
  refine cond_b (fun _ => ?_) (fun _ => ?_)
  · exact fun hg => ret1 (hR _ (Option.some.inj hg).symm) (fz_sc _ _)
  · refine bind_b fun x53 h53 => ?_
    refine imp (callQ_says (sg14 h53)) ?_
    refine imp exT3_b ?_
    refine imp ex_i64_b ?_
    refine cond_b (fun _ => ?_) (fun _ => ?_)
    · refine imp (opP_of (show _ = some ((intA (x53.1.length : Int)), []) from rfl)) ?_
      refine imp ex_i64_b ?_
      refine imp (opP_of (show _ = some ((intA (x53.2.1.length : Int)), []) from rfl)) ?_
      refine imp ex_i64_b ?_
      exact fun hg => ret1 (hR _ (Option.some.inj hg).symm) (fz_sc _ _)
    · refine imp (opP_of (show _ = some ((intA (x53.1.length : Int)), []) from rfl)) ?_
      refine imp ex_i64_b ?_
      refine imp (opP_of (show _ = some ((intA (x53.2.1.length : Int)), []) from rfl)) ?_
      refine imp ex_i64_b ?_
      refine imp (opP_of (show _ = some ((intA (a0.length : Int)), []) from rfl)) ?_
      refine imp ex_i64_b ?_
      refine cond_b (fun _ => ?_) (fun _ => ?_)
      · exact fun hg => ret1 (hR _ (Option.some.inj hg).symm) (fz_sc _ _)
      · refine imp (opP_of (show _ = some ((intA (a0.length : Int)), []) from rfl)) ?_
        refine imp ex_i64_b ?_
        exact fun hg => L4_0_ok n a0 a1 false x53.1 x53.2.1 (a0.length : Int) R  hR n _ hg (weak_mem [] rfl rfl rfl (okW_cons (ent_lst (E := TReadbackOpen.E) _ false) (okW_cons (.inl (leV_refl _)) (okW_cons (.inl (leV_refl _)) (okW_cons (ent_lst (E := TReadbackOpen.E) _ false) (okW_cons (ent_lst (E := TClearance.E) _ false) (okW_cons (ent_lst (E := TReadbackOpen.E) _ false) (okW_cons (.inl (leV_refl _)) (okW_cons (.inl (leV_refl _)) okW_nil)))))))) okB_nil')
theorem sg4 {n : Nat} {a0 : List TReadbackOpen} {a1 : Int} {t : ρ4} (h : g4 n a0 a1 = some t) : Says Tryd.prog KK.gl 4 [(lstA TReadbackOpen.E a0), (intA a1)] ((boolA t)) :=
  says_of_own (by first | rfl | simp [cleans, clean, encs_clean, En.cln]) (by first | rfl | simp [cleans, clean, encs_clean, En.cln]) (F4_own (lstA TReadbackOpen.E a0) a1 _ (g4_ok n a0 a1 (Ans ((boolA t))) (fun r e u m h => by rw [e]; exact h) h))
end Go.Proofs.YtnechdhngpajbaaDoor
