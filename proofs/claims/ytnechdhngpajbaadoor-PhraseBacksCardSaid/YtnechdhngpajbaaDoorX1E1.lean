/- Plain functional programs out of the program's functions, with proofs that the functions compute them; printed by wip/Ext.lean.txt. -/
import Derived.Test.YtnechdhngpajbaaDoorX1G
import Derived.Test.YtnechdhngpajbaaDoorX1F1
set_option linter.unusedVariables false
set_option linter.unusedSimpArgs false
set_option maxRecDepth 100000
namespace Go.Proofs.YtnechdhngpajbaaDoor
/- skyway/skywaykeep3.climbed -/
theorem g21_ok (n : Nat) (a0 : Int) {t : ρ21} (R : AV → Mem → Prop) (hR : ∀ r : ρ21, t = r → ∀ u m, Ans ((AV.agg (TClearance.E.enc r))) u m → R u m) : g21 n a0 = some t → F21 a0 R := by
  unfold g21 F21
  refine imp (opP_of (show _ = some ((AV.agg [(strA (⟨#[65, 49]⟩ : ByteArray)), (intA (0)), (intA a0), (strA (⟨#[]⟩ : ByteArray))]), []) from rfl)) ?_
  refine imp (storeW_cells (sz := 4) (by kernel_rfl) (by kernel_rfl) rfl rfl (cs := [(strA (⟨#[]⟩ : ByteArray)), (intA (0)), (intA (0)), (strA (⟨#[]⟩ : ByteArray))]) (cs' := [(strA (⟨#[65, 49]⟩ : ByteArray)), (intA (0)), (intA a0), (strA (⟨#[]⟩ : ByteArray))]) (ty := 24) (by first | rfl | (simp (disch := first | decide | assumption) only [mpushs_nil, mpushs_cons, mget_hd, mget_tl, mget_appW_o, mget_appW_n, mget_appW_e])) rfl rfl) ?_
  exact fun hg => ret1 (hR _ (Option.some.inj hg).symm) (fz_el (E := TClearance.E) _ (⟨(⟨#[65, 49]⟩ : ByteArray), (0), a0, (⟨#[]⟩ : ByteArray)⟩ : TClearance))
theorem sg21 {n : Nat} {a0 : Int} {t : ρ21} (h : g21 n a0 = some t) : Says Tryd.prog KK.gl 21 [(intA a0)] ((AV.agg (TClearance.E.enc t))) :=
  says_of_own (by first | rfl | simp [cleans, clean, encs_clean, En.cln]) (by first | rfl | simp [cleans, clean, encs_clean, En.cln]) (F21_own a0 _ (g21_ok n a0 (Ans ((AV.agg (TClearance.E.enc t)))) (fun r e u m h => by rw [e]; exact h) h))
/- skyway/chart.Name -/
theorem B43_0_ok (n : Nat) (c2 : Bool) (c14 : List UInt8) (c15 : Int) (v16 : Int) {t : (Int) ⊕ ρ43} (R : AV → Mem → Prop) (N0 : St → Prop) (hR : ∀ r : ρ43, t = (.inr r) → ∀ u m, Ans ((boolA r)) u m → R u m) (hN0 : ∀ y : Int, t = (.inl y) → ∀ s' : St, Weak KK 41 0 s' (h43_0 c2 (lstA byteE c14) c15 y []) → N0 s') : S43_0 n c2 c14 c15 v16 = some t → B43_0 c2 (lstA byteE c14) c15 v16 [] R N0 := by
  unfold S43_0 B43_0
  refine cond_b (fun _ => ?_) (fun _ => ?_)
  · refine bind_b fun x2 h2 => ?_
    refine imp (opP_of (show _ = some ((AV.ept [(AV.sc (.int .u8 (x2.toNat : Int)))] 0), []) from (idx_lst (E := byteE) rfl h2))) ?_
    refine imp (opP_of (show _ = some ((AV.sc (.int .u8 (x2.toNat : Int))), []) from rfl)) ?_
    refine imp ex_u8_b ?_
    refine cond_b (fun _ => ?_) (fun _ => ?_)
    · refine cond_b (fun _ => ?_) (fun _ => ?_)
      · exact fun hg => hN0 _ (Option.some.inj hg).symm _ (weak_mem [] rfl rfl rfl (okW_cons (.inl (leV_refl _)) (okW_cons (ent_lst (E := byteE) _ false) (okW_cons (.inl (leV_refl _)) (okW_cons (.inl (leV_refl _)) okW_nil)))) okB_nil')
      · refine cond_b (fun _ => ?_) (fun _ => ?_)
        · refine cond_b (fun _ => ?_) (fun _ => ?_)
          · refine cond_b (fun _ => ?_) (fun _ => ?_)
            · exact fun hg => ret1 (hR _ (Option.some.inj hg).symm) (fz_sc _ _)
            · exact fun hg => hN0 _ (Option.some.inj hg).symm _ (weak_mem [] rfl rfl rfl (okW_cons (.inl (leV_refl _)) (okW_cons (ent_lst (E := byteE) _ false) (okW_cons (.inl (leV_refl _)) (okW_cons (.inl (leV_refl _)) okW_nil)))) okB_nil')
          · exact fun hg => ret1 (hR _ (Option.some.inj hg).symm) (fz_sc _ _)
        · exact fun hg => ret1 (hR _ (Option.some.inj hg).symm) (fz_sc _ _)
    · refine cond_b (fun _ => ?_) (fun _ => ?_)
      · refine cond_b (fun _ => ?_) (fun _ => ?_)
        · refine cond_b (fun _ => ?_) (fun _ => ?_)
          · exact fun hg => ret1 (hR _ (Option.some.inj hg).symm) (fz_sc _ _)
          · exact fun hg => hN0 _ (Option.some.inj hg).symm _ (weak_mem [] rfl rfl rfl (okW_cons (.inl (leV_refl _)) (okW_cons (ent_lst (E := byteE) _ false) (okW_cons (.inl (leV_refl _)) (okW_cons (.inl (leV_refl _)) okW_nil)))) okB_nil')
        · exact fun hg => ret1 (hR _ (Option.some.inj hg).symm) (fz_sc _ _)
      · exact fun hg => ret1 (hR _ (Option.some.inj hg).symm) (fz_sc _ _)
  · exact fun hg => ret1 (hR _ (Option.some.inj hg).symm) (fz_sc _ _)
theorem L43_0_ok (n : Nat) (c2 : Bool) (c14 : List UInt8) (c15 : Int) {t : ρ43} (R : AV → Mem → Prop) (hR : ∀ r : ρ43, t = r → ∀ u m, Ans ((boolA r)) u m → R u m) (k : Nat) (x : Int) (hx : iterO (fun y : Int => S43_0 n c2 c14 c15 y) k x = some t) {s : St} (hw : Weak KK 41 0 s (h43_0 c2 (lstA byteE c14) c15 x [])) : Tri Tryd.prog KK 41 0 (.loop c43_0) s (q43_0 R ) :=
  L43_0 R  (σ := Nat × (Int)) (fun z => iterO (fun y : Int => S43_0 n c2 c14 c15 y) z.1 z.2 = some t) (fun z => c2) (fun z => (lstA byteE c14)) (fun z => c15) (fun z => z.2) (fun z => []) (fun z => z.1) (by
    rintro ⟨k, y⟩ h
    cases k with
    | zero => exact (iterO_zero h).elim
    | succ k =>
      obtain ⟨u, h1, h2, h3⟩ := iterO_elim h
      exact B43_0_ok n c2 c14 c15 y R  _ (fun r e => hR r (h3 _ e).symm)  (fun y' e s' hw => ⟨(k, y'), h2 _ e, Nat.lt_succ_self k, hw⟩) h1) (k, x) hx hw
theorem g43_ok (n : Nat) (a0 : ByteArray) {t : ρ43} (R : AV → Mem → Prop) (hR : ∀ r : ρ43, t = r → ∀ u m, Ans ((boolA r)) u m → R u m) : g43 n a0 = some t → F43 a0 R := by
  unfold g43 F43
  refine imp (opP_of (show _ = some ((intA (a0.size : Int)), []) from (by kernel_rfl))) ?_
  refine imp ex_i64_b ?_
  refine cond_b (fun _ => ?_) (fun _ => ?_)
  · exact fun hg => ret1 (hR _ (Option.some.inj hg).symm) (fz_sc _ _)
  · refine imp (opP_of (show _ = some ((intA (a0.size : Int)), []) from (by kernel_rfl))) ?_
    refine imp ex_i64_b ?_
    refine cond_b (fun _ => ?_) (fun _ => ?_)
    · exact fun hg => ret1 (hR _ (Option.some.inj hg).symm) (fz_sc _ _)
    · refine bind_b fun x1 h1 => ?_
      refine imp (opP_of (show _ = some ((lstA byteE (a0.data.toList)), []) from (opA_bytes (e := 5) (by kernel_rfl) (by kernel_rfl) (by kernel_rfl) h1))) ?_
      refine imp (opP_of (show _ = some ((intA ((a0.data.toList).length : Int)), []) from rfl)) ?_
      refine imp ex_i64_b ?_
      exact fun hg => L43_0_ok n false (a0.data.toList) ((a0.data.toList).length : Int) R  hR n _ hg (weak_mem [] rfl rfl rfl (okW_cons (.inl (leV_refl _)) (okW_cons (ent_lst (E := byteE) _ false) (okW_cons (.inl (leV_refl _)) (okW_cons (.inl (leV_refl _)) okW_nil)))) okB_nil')
theorem sg43 {n : Nat} {a0 : ByteArray} {t : ρ43} (h : g43 n a0 = some t) : Says Tryd.prog KK.gl 43 [(strA a0)] ((boolA t)) :=
  says_of_own (by first | rfl | simp [cleans, clean, encs_clean, En.cln]) (by first | rfl | simp [cleans, clean, encs_clean, En.cln]) (F43_own a0 _ (g43_ok n a0 (Ans ((boolA t))) (fun r e u m h => by rw [e]; exact h) h))
/- slices.Index[[]string,string] -/
theorem B48_0_ok (n : Nat) (a0 : List ByteArray) (a1 : ByteArray) (c4 : Int) (c7 : Int) (v8 : Int) {t : (Int) ⊕ ρ48} (R : AV → Mem → Prop) (N0 : St → Prop) (hR : ∀ r : ρ48, t = (.inr r) → ∀ u m, Ans ((intA r)) u m → R u m) (hN0 : ∀ y : Int, t = (.inl y) → ∀ s' : St, Weak KK 19 0 s' (h48_0 (lstA strE a0) a1 c4 c7 y []) → N0 s') : S48_0 n a0 a1 c4 c7 v8 = some t → B48_0 (lstA strE a0) a1 c4 c7 v8 [] R N0 := by
  unfold S48_0 B48_0
  refine cond_b (fun _ => ?_) (fun _ => ?_)
  · refine bind_b fun x4 h4 => ?_
    refine imp (opP_of (show _ = some ((AV.ept [(strA x4)] 0), []) from (idx_lst (E := strE) rfl h4))) ?_
    refine imp (opP_of (show _ = some ((strA x4), []) from rfl)) ?_
    refine imp exStr_b ?_
    refine cond_b (fun _ => ?_) (fun _ => ?_)
    · exact fun hg => ret1 (hR _ (Option.some.inj hg).symm) (fz_sc _ _)
    · exact fun hg => hN0 _ (Option.some.inj hg).symm _ (weak_mem [] rfl rfl rfl (okW_cons (ent_lst (E := strE) _ false) (okW_cons (.inl (leV_refl _)) (okW_cons (.inl (leV_refl _)) (okW_cons (.inl (leV_refl _)) (okW_cons (.inl (leV_refl _)) okW_nil))))) okB_nil')
  · exact fun hg => ret1 (hR _ (Option.some.inj hg).symm) (fz_sc _ _)
theorem L48_0_ok (n : Nat) (a0 : List ByteArray) (a1 : ByteArray) (c4 : Int) (c7 : Int) {t : ρ48} (R : AV → Mem → Prop) (hR : ∀ r : ρ48, t = r → ∀ u m, Ans ((intA r)) u m → R u m) (k : Nat) (x : Int) (hx : iterO (fun y : Int => S48_0 n a0 a1 c4 c7 y) k x = some t) {s : St} (hw : Weak KK 19 0 s (h48_0 (lstA strE a0) a1 c4 c7 x [])) : Tri Tryd.prog KK 19 0 (.loop c48_0) s (q48_0 R ) :=
  L48_0 R  (σ := Nat × (Int)) (fun z => iterO (fun y : Int => S48_0 n a0 a1 c4 c7 y) z.1 z.2 = some t) (fun z => (lstA strE a0)) (fun z => a1) (fun z => c4) (fun z => c7) (fun z => z.2) (fun z => []) (fun z => z.1) (by
    rintro ⟨k, y⟩ h
    cases k with
    | zero => exact (iterO_zero h).elim
    | succ k =>
      obtain ⟨u, h1, h2, h3⟩ := iterO_elim h
      exact B48_0_ok n a0 a1 c4 c7 y R  _ (fun r e => hR r (h3 _ e).symm)  (fun y' e s' hw => ⟨(k, y'), h2 _ e, Nat.lt_succ_self k, hw⟩) h1) (k, x) hx hw
theorem g48_ok (n : Nat) (a0 : List ByteArray) (a1 : ByteArray) {t : ρ48} (R : AV → Mem → Prop) (hR : ∀ r : ρ48, t = r → ∀ u m, Ans ((intA r)) u m → R u m) : g48 n a0 a1 = some t → F48 (lstA strE a0) a1 R := by
  unfold g48 F48
  refine imp (opP_of (show _ = some ((intA (a0.length : Int)), []) from rfl)) ?_
  refine imp ex_i64_b ?_
  exact fun hg => L48_0_ok n a0 a1 (0) (a0.length : Int) R  hR n _ hg (weak_mem [] rfl rfl rfl (okW_cons (ent_lst (E := strE) _ false) (okW_cons (.inl (leV_refl _)) (okW_cons (.inl (leV_refl _)) (okW_cons (.inl (leV_refl _)) (okW_cons (.inl (leV_refl _)) okW_nil))))) okB_nil')
theorem sg48 {n : Nat} {a0 : List ByteArray} {a1 : ByteArray} {t : ρ48} (h : g48 n a0 a1 = some t) : Says Tryd.prog KK.gl 48 [(lstA strE a0), (strA a1)] ((intA t)) :=
  says_of_own (by first | rfl | simp [cleans, clean, encs_clean, En.cln]) (by first | rfl | simp [cleans, clean, encs_clean, En.cln]) (F48_own (lstA strE a0) a1 _ (g48_ok n a0 a1 (Ans ((intA t))) (fun r e u m h => by rw [e]; exact h) h))
/- skyway/phrase.kind -/
theorem g41_ok (n : Nat) (a0 : ByteArray) {t : ρ41} (R : AV → Mem → Prop) (hR : ∀ r : ρ41, t = r → ∀ u m, Ans ((intA r)) u m → R u m) : g41 n a0 = some t → F41 a0 R := by
  unfold g41 F41
  refine imp (opP_of (show _ = some ((AV.lst (([(⟨#[72, 69, 73, 71, 72, 84]⟩ : ByteArray), (⟨#[72, 69, 65, 68, 73, 78, 71]⟩ : ByteArray), (⟨#[83, 80, 69, 69, 68]⟩ : ByteArray), (⟨#[68, 73, 82, 69, 67, 84]⟩ : ByteArray), (⟨#[72, 79, 76, 68]⟩ : ByteArray), (⟨#[67, 79, 78, 84, 65, 67, 84]⟩ : ByteArray), (⟨#[76, 65, 78, 68]⟩ : ByteArray)] : List ByteArray)).length (encs strE ([(⟨#[72, 69, 73, 71, 72, 84]⟩ : ByteArray), (⟨#[72, 69, 65, 68, 73, 78, 71]⟩ : ByteArray), (⟨#[83, 80, 69, 69, 68]⟩ : ByteArray), (⟨#[68, 73, 82, 69, 67, 84]⟩ : ByteArray), (⟨#[72, 79, 76, 68]⟩ : ByteArray), (⟨#[67, 79, 78, 84, 65, 67, 84]⟩ : ByteArray), (⟨#[76, 65, 78, 68]⟩ : ByteArray)] : List ByteArray)) true), []) from (by kernel_rfl))) ?_
  refine bind_b fun x5 h5 => ?_
  refine imp (callQ_saysL (rl_cons leV_lstT (rl_cons (leV_refl _) rl_nil)) (sg48 h5)) ?_
  refine imp ex_i64_b ?_
  exact fun hg => ret1 (hR _ (Option.some.inj hg).symm) (fz_sc _ _)
theorem sg41 {n : Nat} {a0 : ByteArray} {t : ρ41} (h : g41 n a0 = some t) : Says Tryd.prog KK.gl 41 [(strA a0)] ((intA t)) :=
  says_of_own (by first | rfl | simp [cleans, clean, encs_clean, En.cln]) (by first | rfl | simp [cleans, clean, encs_clean, En.cln]) (F41_own a0 _ (g41_ok n a0 (Ans ((intA t))) (fun r e u m h => by rw [e]; exact h) h))
/- skyway/phrase.name -/
theorem g38_ok (n : Nat) (a0 : ByteArray) {t : ρ38} (R : AV → Mem → Prop) (hR : ∀ r : ρ38, t = r → ∀ u m, Ans ((boolA r)) u m → R u m) : g38 n a0 = some t → F38 a0 R := by
  unfold g38 F38
  refine bind_b fun x3 h3 => ?_
  refine imp (callQ_says (sg43 h3)) ?_
  refine imp exB_b ?_
  refine cond_b (fun _ => ?_) (fun _ => ?_)
  · refine bind_b fun x6 h6 => ?_
    refine imp (callQ_says (sg41 h6)) ?_
    refine imp ex_i64_b ?_
    exact fun hg => ret1 (hR _ (Option.some.inj hg).symm) (fz_sc _ _)
  · exact fun hg => ret1 (hR _ (Option.some.inj hg).symm) (fz_sc _ _)
theorem sg38 {n : Nat} {a0 : ByteArray} {t : ρ38} (h : g38 n a0 = some t) : Says Tryd.prog KK.gl 38 [(strA a0)] ((boolA t)) :=
  says_of_own (by first | rfl | simp [cleans, clean, encs_clean, En.cln]) (by first | rfl | simp [cleans, clean, encs_clean, En.cln]) (F38_own a0 _ (g38_ok n a0 (Ans ((boolA t))) (fun r e u m h => by rw [e]; exact h) h))
/- skyway/phrase.Check -/
theorem g32_ok (n : Nat) (a0 : TClearance) {t : ρ32} (R : AV → Mem → Prop) (hR : ∀ r : ρ32, t = r → ∀ u m, Ans ((intA r)) u m → R u m) : g32 n a0 = some t → F32 a0.Call a0.Kind a0.Value a0.Fix R := by
  unfold g32 F32
  refine bind_b fun x7 h7 => ?_
  refine imp (callQ_says (sg38 h7)) ?_
  refine imp exB_b ?_
  refine cond_b (fun _ => ?_) (fun _ => ?_)
  · exact fun hg => ret1 (hR _ (Option.some.inj hg).symm) (fz_sc _ _)
  · refine cond_b (fun _ => ?_) (fun _ => ?_)
    · exact fun hg => ret1 (hR _ (Option.some.inj hg).symm) (fz_sc _ _)
    · refine cond_b (fun _ => ?_) (fun _ => ?_)
      · exact fun hg => ret1 (hR _ (Option.some.inj hg).symm) (fz_sc _ _)
      · refine cond_b (fun _ => ?_) (fun _ => ?_)
        · refine cond_b (fun _ => ?_) (fun _ => ?_)
          · exact fun hg => ret1 (hR _ (Option.some.inj hg).symm) (fz_sc _ _)
          · refine bind_b fun x8 h8 => ?_
            refine imp (callQ_says (sg38 h8)) ?_
            refine imp exB_b ?_
            refine cond_b (fun _ => ?_) (fun _ => ?_)
            · exact fun hg => ret1 (hR _ (Option.some.inj hg).symm) (fz_sc _ _)
            · exact fun hg => ret1 (hR _ (Option.some.inj hg).symm) (fz_sc _ _)
        · refine cond_b (fun _ => ?_) (fun _ => ?_)
          · exact fun hg => ret1 (hR _ (Option.some.inj hg).symm) (fz_sc _ _)
          · refine cond_b (fun _ => ?_) (fun _ => ?_)
            · exact fun hg => ret1 (hR _ (Option.some.inj hg).symm) (fz_sc _ _)
            · refine bind_b fun x9 h9 => ?_
              refine imp (opP_of (show _ = some ((AV.ept [(intA (60000)), (intA (4095)), (intA (400))] (((a0.Kind : Int).toNat) * 1 + 0)), []) from (idxA_ept0 (l := ([(60000), (4095), (400)] : List Int)) (len := 3) rfl h9))) ?_
              refine imp (opP_of (show _ = some ((intA x9), []) from (ldS_ept_blk (E := intE) (l := ([(60000), (4095), (400)] : List Int)) (o := 0) rfl (getI_some h9).2 rfl (by decide) rfl))) ?_
              refine imp ex_i64_b ?_
              refine cond_b (fun _ => ?_) (fun _ => ?_)
              · exact fun hg => ret1 (hR _ (Option.some.inj hg).symm) (fz_sc _ _)
              · exact fun hg => ret1 (hR _ (Option.some.inj hg).symm) (fz_sc _ _)
theorem sg32 {n : Nat} {a0 : TClearance} {t : ρ32} (h : g32 n a0 = some t) : Says Tryd.prog KK.gl 32 [(AV.agg [(strA a0.Call), (intA a0.Kind), (intA a0.Value), (strA a0.Fix)])] ((intA t)) :=
  says_of_own (by first | rfl | simp [cleans, clean, encs_clean, En.cln]) (by first | rfl | simp [cleans, clean, encs_clean, En.cln]) (F32_own a0.Call a0.Kind a0.Value a0.Fix _ (g32_ok n a0 (Ans ((intA t))) (fun r e u m h => by rw [e]; exact h) h))
/- skyway/phrase.what -/
theorem g33_ok (n : Nat) (a0 : TClearance) {t : ρ33} (R : AV → Mem → Prop) (hR : ∀ r : ρ33, t = r → ∀ u m, Ans ((strA r)) u m → R u m) : g33 n a0 = some t → F33 a0.Call a0.Kind a0.Value a0.Fix R := by
  unfold g33 F33
  refine cond_b (fun _ => ?_) (fun _ => ?_)
  · refine bind_b fun x12 h12 => ?_
    refine imp (opP_of (show _ = some ((AV.ept [(strA (⟨#[72, 69, 73, 71, 72, 84]⟩ : ByteArray)), (strA (⟨#[72, 69, 65, 68, 73, 78, 71]⟩ : ByteArray)), (strA (⟨#[83, 80, 69, 69, 68]⟩ : ByteArray)), (strA (⟨#[68, 73, 82, 69, 67, 84]⟩ : ByteArray)), (strA (⟨#[72, 79, 76, 68]⟩ : ByteArray)), (strA (⟨#[67, 79, 78, 84, 65, 67, 84]⟩ : ByteArray)), (strA (⟨#[76, 65, 78, 68]⟩ : ByteArray))] (((a0.Kind : Int).toNat) * 1 + 0)), []) from (idxA_ept0 (l := ([(⟨#[72, 69, 73, 71, 72, 84]⟩ : ByteArray), (⟨#[72, 69, 65, 68, 73, 78, 71]⟩ : ByteArray), (⟨#[83, 80, 69, 69, 68]⟩ : ByteArray), (⟨#[68, 73, 82, 69, 67, 84]⟩ : ByteArray), (⟨#[72, 79, 76, 68]⟩ : ByteArray), (⟨#[67, 79, 78, 84, 65, 67, 84]⟩ : ByteArray), (⟨#[76, 65, 78, 68]⟩ : ByteArray)] : List ByteArray)) (len := 7) rfl h12))) ?_
    refine imp (opP_of (show _ = some ((strA x12), []) from (ldS_ept_blk (E := strE) (l := ([(⟨#[72, 69, 73, 71, 72, 84]⟩ : ByteArray), (⟨#[72, 69, 65, 68, 73, 78, 71]⟩ : ByteArray), (⟨#[83, 80, 69, 69, 68]⟩ : ByteArray), (⟨#[68, 73, 82, 69, 67, 84]⟩ : ByteArray), (⟨#[72, 79, 76, 68]⟩ : ByteArray), (⟨#[67, 79, 78, 84, 65, 67, 84]⟩ : ByteArray), (⟨#[76, 65, 78, 68]⟩ : ByteArray)] : List ByteArray)) (o := 0) rfl (getI_some h12).2 rfl (by decide) rfl))) ?_
    refine imp exStr_b ?_
    refine bind_b fun x13 h13 => ?_
    refine imp (opP_of (show _ = some ((strA x13), []) from (opA_addS h13))) ?_
    refine imp exStr_b ?_
    refine bind_b fun x14 h14 => ?_
    refine imp (opP_of (show _ = some ((strA x14), []) from (opA_addS h14))) ?_
    refine imp exStr_b ?_
    exact fun hg => ret1 (hR _ (Option.some.inj hg).symm) (fz_sc _ _)
  · refine bind_b fun x15 h15 => ?_
    refine imp (opP_of (show _ = some ((AV.ept [(strA (⟨#[72, 69, 73, 71, 72, 84]⟩ : ByteArray)), (strA (⟨#[72, 69, 65, 68, 73, 78, 71]⟩ : ByteArray)), (strA (⟨#[83, 80, 69, 69, 68]⟩ : ByteArray)), (strA (⟨#[68, 73, 82, 69, 67, 84]⟩ : ByteArray)), (strA (⟨#[72, 79, 76, 68]⟩ : ByteArray)), (strA (⟨#[67, 79, 78, 84, 65, 67, 84]⟩ : ByteArray)), (strA (⟨#[76, 65, 78, 68]⟩ : ByteArray))] (((a0.Kind : Int).toNat) * 1 + 0)), []) from (idxA_ept0 (l := ([(⟨#[72, 69, 73, 71, 72, 84]⟩ : ByteArray), (⟨#[72, 69, 65, 68, 73, 78, 71]⟩ : ByteArray), (⟨#[83, 80, 69, 69, 68]⟩ : ByteArray), (⟨#[68, 73, 82, 69, 67, 84]⟩ : ByteArray), (⟨#[72, 79, 76, 68]⟩ : ByteArray), (⟨#[67, 79, 78, 84, 65, 67, 84]⟩ : ByteArray), (⟨#[76, 65, 78, 68]⟩ : ByteArray)] : List ByteArray)) (len := 7) rfl h15))) ?_
    refine imp (opP_of (show _ = some ((strA x15), []) from (ldS_ept_blk (E := strE) (l := ([(⟨#[72, 69, 73, 71, 72, 84]⟩ : ByteArray), (⟨#[72, 69, 65, 68, 73, 78, 71]⟩ : ByteArray), (⟨#[83, 80, 69, 69, 68]⟩ : ByteArray), (⟨#[68, 73, 82, 69, 67, 84]⟩ : ByteArray), (⟨#[72, 79, 76, 68]⟩ : ByteArray), (⟨#[67, 79, 78, 84, 65, 67, 84]⟩ : ByteArray), (⟨#[76, 65, 78, 68]⟩ : ByteArray)] : List ByteArray)) (o := 0) rfl (getI_some h15).2 rfl (by decide) rfl))) ?_
    refine imp exStr_b ?_
    refine bind_b fun x16 h16 => ?_
    refine imp (opP_of (show _ = some ((strA x16), []) from (opA_addS h16))) ?_
    refine imp exStr_b ?_
    refine bind_b fun x17 h17 => ?_
    refine imp (callQ_says (sg39 h17)) ?_
    refine imp exStr_b ?_
    refine bind_b fun x18 h18 => ?_
    refine imp (opP_of (show _ = some ((strA x18), []) from (opA_addS h18))) ?_
    refine imp exStr_b ?_
    exact fun hg => ret1 (hR _ (Option.some.inj hg).symm) (fz_sc _ _)
theorem sg33 {n : Nat} {a0 : TClearance} {t : ρ33} (h : g33 n a0 = some t) : Says Tryd.prog KK.gl 33 [(AV.agg [(strA a0.Call), (intA a0.Kind), (intA a0.Value), (strA a0.Fix)])] ((strA t)) :=
  says_of_own (by first | rfl | simp [cleans, clean, encs_clean, En.cln]) (by first | rfl | simp [cleans, clean, encs_clean, En.cln]) (F33_own a0.Call a0.Kind a0.Value a0.Fix _ (g33_ok n a0 (Ans ((strA t))) (fun r e u m h => by rw [e]; exact h) h))
/- skyway/phrase.Print -/
theorem g17_ok (n : Nat) (a0 : TClearance) {t : ρ17} (R : AV → Mem → Prop) (hR : ∀ r : ρ17, t = r → ∀ u m, Ans ((AV.tup [(strA r.1), (intA r.2)])) u m → R u m) : g17 n a0 = some t → F17 a0.Call a0.Kind a0.Value a0.Fix R := by
  unfold g17 F17
  refine bind_b fun x10 h10 => ?_
  refine imp (callQ_says (sg32 h10)) ?_
  refine imp ex_i64_b ?_
  refine cond_b (fun _ => ?_) (fun _ => ?_)
  · exact fun hg => retN rfl (hR _ (Option.some.inj hg).symm) (fzL_cons (fz_sc _ _) (fzL_cons (fz_sc _ _) fzL_nil))
  · refine bind_b fun x11 h11 => ?_
    refine imp (opP_of (show _ = some ((strA x11), []) from (opA_addS h11))) ?_
    refine imp exStr_b ?_
    refine bind_b fun x19 h19 => ?_
    refine imp (callQ_says (sg33 h19)) ?_
    refine imp exStr_b ?_
    refine bind_b fun x20 h20 => ?_
    refine imp (opP_of (show _ = some ((strA x20), []) from (opA_addS h20))) ?_
    refine imp exStr_b ?_
    exact fun hg => retN rfl (hR _ (Option.some.inj hg).symm) (fzL_cons (fz_sc _ _) (fzL_cons (fz_sc _ _) fzL_nil))
theorem sg17 {n : Nat} {a0 : TClearance} {t : ρ17} (h : g17 n a0 = some t) : Says Tryd.prog KK.gl 17 [(AV.agg [(strA a0.Call), (intA a0.Kind), (intA a0.Value), (strA a0.Fix)])] ((AV.tup [(strA t.1), (intA t.2)])) :=
  says_of_own (by first | rfl | simp [cleans, clean, encs_clean, En.cln]) (by first | rfl | simp [cleans, clean, encs_clean, En.cln]) (F17_own a0.Call a0.Kind a0.Value a0.Fix _ (g17_ok n a0 (Ans ((AV.tup [(strA t.1), (intA t.2)]))) (fun r e u m h => by rw [e]; exact h) h))
/- skyway/phrase.Back -/
theorem g18_ok (n : Nat) (a0 : TClearance) {t : ρ18} (R : AV → Mem → Prop) (hR : ∀ r : ρ18, t = r → ∀ u m, Ans ((AV.tup [(strA r.1), (intA r.2)])) u m → R u m) : g18 n a0 = some t → F18 a0.Call a0.Kind a0.Value a0.Fix R := by
  unfold g18 F18
  refine bind_b fun x22 h22 => ?_
  refine imp (callQ_says (sg32 h22)) ?_
  refine imp ex_i64_b ?_
  refine cond_b (fun _ => ?_) (fun _ => ?_)
  · exact fun hg => retN rfl (hR _ (Option.some.inj hg).symm) (fzL_cons (fz_sc _ _) (fzL_cons (fz_sc _ _) fzL_nil))
  · refine bind_b fun x23 h23 => ?_
    refine imp (callQ_says (sg33 h23)) ?_
    refine imp exStr_b ?_
    refine bind_b fun x24 h24 => ?_
    refine imp (opP_of (show _ = some ((strA x24), []) from (opA_addS h24))) ?_
    refine imp exStr_b ?_
    refine bind_b fun x25 h25 => ?_
    refine imp (opP_of (show _ = some ((strA x25), []) from (opA_addS h25))) ?_
    refine imp exStr_b ?_
    exact fun hg => retN rfl (hR _ (Option.some.inj hg).symm) (fzL_cons (fz_sc _ _) (fzL_cons (fz_sc _ _) fzL_nil))
theorem sg18 {n : Nat} {a0 : TClearance} {t : ρ18} (h : g18 n a0 = some t) : Says Tryd.prog KK.gl 18 [(AV.agg [(strA a0.Call), (intA a0.Kind), (intA a0.Value), (strA a0.Fix)])] ((AV.tup [(strA t.1), (intA t.2)])) :=
  says_of_own (by first | rfl | simp [cleans, clean, encs_clean, En.cln]) (by first | rfl | simp [cleans, clean, encs_clean, En.cln]) (F18_own a0.Call a0.Kind a0.Value a0.Fix _ (g18_ok n a0 (Ans ((AV.tup [(strA t.1), (intA t.2)]))) (fun r e u m h => by rw [e]; exact h) h))
/- skyway/phrase.read -/
theorem g35_ok (n : Nat) (a0 : ByteArray) (a1 : ByteArray) (a2 : ByteArray) {t : ρ35} (R : AV → Mem → Prop) (hR : ∀ r : ρ35, t = r → ∀ u m, Ans ((AV.tup [(AV.agg (TClearance.E.enc r.1)), (boolA r.2)])) u m → R u m) : g35 n a0 a1 a2 = some t → F35 a0 a1 a2 R := by
  unfold g35 F35
  refine bind_b fun x31 h31 => ?_
  refine imp (callQ_says (sg41 h31)) ?_
  refine imp ex_i64_b ?_
  refine imp (opP_of (show _ = some ((AV.agg [(strA a0), (intA x31), (intA (0)), (strA (⟨#[]⟩ : ByteArray))]), []) from rfl)) ?_
  refine imp (storeW_cells (sz := 4) (by kernel_rfl) (by kernel_rfl) rfl rfl (cs := [(strA (⟨#[]⟩ : ByteArray)), (intA (0)), (intA (0)), (strA (⟨#[]⟩ : ByteArray))]) (cs' := [(strA a0), (intA x31), (intA (0)), (strA (⟨#[]⟩ : ByteArray))]) (ty := 24) (by first | rfl | (simp (disch := first | decide | assumption) only [mpushs_nil, mpushs_cons, mget_hd, mget_tl, mget_appW_o, mget_appW_n, mget_appW_e])) rfl rfl) ?_
  refine imp (opP_of (show _ = some ((intA x31), []) from (ldS_ptr (b := ⟨[(strA a0), (intA x31), (intA (0)), (strA (⟨#[]⟩ : ByteArray))], 24⟩) (by first | rfl | (simp (disch := first | decide | assumption) only [mpushs_nil, mpushs_cons, mget_hd, mget_tl, mget_appW_o, mget_appW_n, mget_appW_e])) rfl))) ?_
  refine imp ex_i64_b ?_
  refine cond_b (fun _ => ?_) (fun _ => ?_)
  · refine imp (opP_of (show _ = some ((AV.agg [(strA a0), (intA x31), (intA (0)), (strA (⟨#[]⟩ : ByteArray))]), []) from (ldA_ptr (b := ⟨[(strA a0), (intA x31), (intA (0)), (strA (⟨#[]⟩ : ByteArray))], 24⟩) (by first | rfl | (simp (disch := first | decide | assumption) only [mpushs_nil, mpushs_cons, mget_hd, mget_tl, mget_appW_o, mget_appW_n, mget_appW_e])) rfl))) ?_
    refine imp exA4_b ?_
    refine imp exStr_b ?_
    refine imp ex_i64_b ?_
    refine imp ex_i64_b ?_
    refine imp exStr_b ?_
    refine imp (storeW_cells (sz := 4) (by kernel_rfl) (by kernel_rfl) rfl rfl (cs := [(strA (⟨#[]⟩ : ByteArray)), (intA (0)), (intA (0)), (strA (⟨#[]⟩ : ByteArray))]) (cs' := [(strA a0), (intA x31), (intA (0)), (strA (⟨#[]⟩ : ByteArray))]) (ty := 24) (by first | rfl | (simp (disch := first | decide | assumption) only [mpushs_nil, mpushs_cons, mget_hd, mget_tl, mget_appW_o, mget_appW_n, mget_appW_e])) rfl rfl) ?_
    exact fun hg => retN rfl (hR _ (Option.some.inj hg).symm) (fzL_cons (fz_el (E := TClearance.E) _ (⟨a0, x31, (0), (⟨#[]⟩ : ByteArray)⟩ : TClearance)) (fzL_cons (fz_sc _ _) fzL_nil))
  · refine imp (opP_of (show _ = some ((intA x31), []) from (ldS_ptr (b := ⟨[(strA a0), (intA x31), (intA (0)), (strA (⟨#[]⟩ : ByteArray))], 24⟩) (by first | rfl | (simp (disch := first | decide | assumption) only [mpushs_nil, mpushs_cons, mget_hd, mget_tl, mget_appW_o, mget_appW_n, mget_appW_e])) rfl))) ?_
    refine imp ex_i64_b ?_
    refine cond_b (fun _ => ?_) (fun _ => ?_)
    · refine imp (storeW_cell (by kernel_rfl) (by kernel_rfl) rfl (cs := [(strA a0), (intA x31), (intA (0)), (strA (⟨#[]⟩ : ByteArray))]) (cs' := [(strA a0), (intA x31), (intA (0)), (strA a2)]) (ty := 24) (by first | rfl | (simp (disch := first | decide | assumption) only [mpushs_nil, mpushs_cons, mget_hd, mget_tl, mget_appW_o, mget_appW_n, mget_appW_e])) rfl rfl) ?_
      refine imp (opP_of (show _ = some ((AV.agg [(strA a0), (intA x31), (intA (0)), (strA a2)]), []) from (ldA_ptr (b := ⟨[(strA a0), (intA x31), (intA (0)), (strA a2)], 24⟩) (by first | rfl | (simp (disch := first | decide | assumption) only [mpushs_nil, mpushs_cons, mget_hd, mget_tl, mget_appW_o, mget_appW_n, mget_appW_e])) rfl))) ?_
      refine imp exA4_b ?_
      refine imp exStr_b ?_
      refine imp ex_i64_b ?_
      refine imp ex_i64_b ?_
      refine imp exStr_b ?_
      refine imp (storeW_cells (sz := 4) (by kernel_rfl) (by kernel_rfl) rfl rfl (cs := [(strA (⟨#[]⟩ : ByteArray)), (intA (0)), (intA (0)), (strA (⟨#[]⟩ : ByteArray))]) (cs' := [(strA a0), (intA x31), (intA (0)), (strA a2)]) (ty := 24) (by first | rfl | (simp (disch := first | decide | assumption) only [mpushs_nil, mpushs_cons, mget_hd, mget_tl, mget_appW_o, mget_appW_n, mget_appW_e])) rfl rfl) ?_
      exact fun hg => retN rfl (hR _ (Option.some.inj hg).symm) (fzL_cons (fz_el (E := TClearance.E) _ (⟨a0, x31, (0), a2⟩ : TClearance)) (fzL_cons (fz_sc _ _) fzL_nil))
    · refine bind_b fun x32 h32 => ?_
      refine imp (callQ_says (sg42 h32)) ?_
      refine imp exT2_b ?_
      refine imp ex_i64_b ?_
      refine imp (storeW_cell (by kernel_rfl) (by kernel_rfl) rfl (cs := [(strA a0), (intA x31), (intA (0)), (strA (⟨#[]⟩ : ByteArray))]) (cs' := [(strA a0), (intA x31), (intA x32.1), (strA (⟨#[]⟩ : ByteArray))]) (ty := 24) (by first | rfl | (simp (disch := first | decide | assumption) only [mpushs_nil, mpushs_cons, mget_hd, mget_tl, mget_appW_o, mget_appW_n, mget_appW_e])) rfl rfl) ?_
      refine imp (opM_of (show _ = some ((AV.agg [(strA a0), (intA x31), (intA x32.1), (strA (⟨#[]⟩ : ByteArray))]), []) from (ldA_ptr (b := ⟨[(strA a0), (intA x31), (intA x32.1), (strA (⟨#[]⟩ : ByteArray))], 24⟩) (by first | rfl | (rw [look'_mem (by first | rfl | simp [topId_blk] | simp [topId])]; first | rfl | (simp (disch := first | decide | assumption) only [mpushs_nil, mpushs_cons, mget_hd, mget_tl, mget_appW_o, mget_appW_n, mget_appW_e]))) rfl))) ?_
      refine imp exA4_b ?_
      refine imp exStr_b ?_
      refine imp ex_i64_b ?_
      refine imp ex_i64_b ?_
      refine imp exStr_b ?_
      refine imp (opM_of (show _ = some ((boolA x32.2), []) from (by kernel_rfl))) ?_
      refine imp exB_b ?_
      refine cond_b (fun _ => ?_) (fun _ => ?_)
      · refine bind_b fun x33 h33 => ?_
        refine imp (callF_says (sg39 h33)) ?_
        refine imp exStr_b ?_
        refine imp (storeW_cells (sz := 4) (by kernel_rfl) (by kernel_rfl) rfl rfl (cs := [(strA (⟨#[]⟩ : ByteArray)), (intA (0)), (intA (0)), (strA (⟨#[]⟩ : ByteArray))]) (cs' := [(strA a0), (intA x31), (intA x32.1), (strA (⟨#[]⟩ : ByteArray))]) (ty := 24) (by first | rfl | (rw [look'_mem (by first | rfl | simp [topId_blk] | simp [topId])]; first | rfl | (simp (disch := first | decide | assumption) only [mpushs_nil, mpushs_cons, mget_hd, mget_tl, mget_appW_o, mget_appW_n, mget_appW_e]))) rfl rfl) ?_
        refine imp (chk_of (by kernel_rfl)) ?_
        exact fun hg => retN rfl (hR _ (Option.some.inj hg).symm) (fzL_cons (fz_el (E := TClearance.E) _ (⟨a0, x31, x32.1, (⟨#[]⟩ : ByteArray)⟩ : TClearance)) (fzL_cons (fz_sc _ _) fzL_nil))
      · refine imp (storeW_cells (sz := 4) (by kernel_rfl) (by kernel_rfl) rfl rfl (cs := [(strA (⟨#[]⟩ : ByteArray)), (intA (0)), (intA (0)), (strA (⟨#[]⟩ : ByteArray))]) (cs' := [(strA a0), (intA x31), (intA x32.1), (strA (⟨#[]⟩ : ByteArray))]) (ty := 24) (by first | rfl | (rw [look'_mem (by first | rfl | simp [topId_blk] | simp [topId])]; first | rfl | (simp (disch := first | decide | assumption) only [mpushs_nil, mpushs_cons, mget_hd, mget_tl, mget_appW_o, mget_appW_n, mget_appW_e]))) rfl rfl) ?_
        refine imp (chk_of (by kernel_rfl)) ?_
        exact fun hg => retN rfl (hR _ (Option.some.inj hg).symm) (fzL_cons (fz_el (E := TClearance.E) _ (⟨a0, x31, x32.1, (⟨#[]⟩ : ByteArray)⟩ : TClearance)) (fzL_cons (fz_sc _ _) fzL_nil))
theorem sg35 {n : Nat} {a0 : ByteArray} {a1 : ByteArray} {a2 : ByteArray} {t : ρ35} (h : g35 n a0 a1 a2 = some t) : Says Tryd.prog KK.gl 35 [(strA a0), (strA a1), (strA a2)] ((AV.tup [(AV.agg (TClearance.E.enc t.1)), (boolA t.2)])) :=
  says_of_own (by first | rfl | simp [cleans, clean, encs_clean, En.cln]) (by first | rfl | simp [cleans, clean, encs_clean, En.cln]) (F35_own a0 a1 a2 _ (g35_ok n a0 a1 a2 (Ans ((AV.tup [(AV.agg (TClearance.E.enc t.1)), (boolA t.2)]))) (fun r e u m h => by rw [e]; exact h) h))
/- skyway/phrase.Parse -/
theorem g19_ok (n : Nat) (a0 : ByteArray) {t : ρ19} (R : AV → Mem → Prop) (hR : ∀ r : ρ19, t = r → ∀ u m, Ans ((AV.tup [(AV.agg (TClearance.E.enc r.1)), (boolA r.2.1), (intA r.2.2)])) u m → R u m) : g19 n a0 = some t → F19 a0 R := by
  unfold g19 F19
  refine imp (opP_of (show _ = some ((intA (a0.size : Int)), []) from (by kernel_rfl))) ?_
  refine imp ex_i64_b ?_
  refine cond_b (fun _ => ?_) (fun _ => ?_)
  · refine imp (opP_of (show _ = some ((AV.agg [(strA (⟨#[]⟩ : ByteArray)), (intA (0)), (intA (0)), (strA (⟨#[]⟩ : ByteArray))]), []) from rfl)) ?_
    refine imp (storeW_cells (sz := 4) (by kernel_rfl) (by kernel_rfl) rfl rfl (cs := [(strA (⟨#[]⟩ : ByteArray)), (intA (0)), (intA (0)), (strA (⟨#[]⟩ : ByteArray))]) (cs' := [(strA (⟨#[]⟩ : ByteArray)), (intA (0)), (intA (0)), (strA (⟨#[]⟩ : ByteArray))]) (ty := 24) (by first | rfl | (simp (disch := first | decide | assumption) only [mpushs_nil, mpushs_cons, mget_hd, mget_tl, mget_appW_o, mget_appW_n, mget_appW_e])) rfl rfl) ?_
    exact fun hg => retN rfl (hR _ (Option.some.inj hg).symm) (fzL_cons (fz_el (E := TClearance.E) _ (⟨(⟨#[]⟩ : ByteArray), (0), (0), (⟨#[]⟩ : ByteArray)⟩ : TClearance)) (fzL_cons (fz_sc _ _) (fzL_cons (fz_sc _ _) fzL_nil)))
  · refine bind_b fun x27 h27 => ?_
    refine imp (callQ_says (sg34 h27)) ?_
    refine imp (opP_of (show _ = some ((intA (x27.length : Int)), []) from rfl)) ?_
    refine imp ex_i64_b ?_
    refine cond_b (fun _ => ?_) (fun _ => ?_)
    · refine imp (opP_of (show _ = some ((AV.agg [(strA (⟨#[]⟩ : ByteArray)), (intA (0)), (intA (0)), (strA (⟨#[]⟩ : ByteArray))]), []) from rfl)) ?_
      refine imp (storeW_cells (sz := 4) (by kernel_rfl) (by kernel_rfl) rfl rfl (cs := [(strA (⟨#[]⟩ : ByteArray)), (intA (0)), (intA (0)), (strA (⟨#[]⟩ : ByteArray))]) (cs' := [(strA (⟨#[]⟩ : ByteArray)), (intA (0)), (intA (0)), (strA (⟨#[]⟩ : ByteArray))]) (ty := 24) (by first | rfl | (simp (disch := first | decide | assumption) only [mpushs_nil, mpushs_cons, mget_hd, mget_tl, mget_appW_o, mget_appW_n, mget_appW_e])) rfl rfl) ?_
      exact fun hg => retN rfl (hR _ (Option.some.inj hg).symm) (fzL_cons (fz_el (E := TClearance.E) _ (⟨(⟨#[]⟩ : ByteArray), (0), (0), (⟨#[]⟩ : ByteArray)⟩ : TClearance)) (fzL_cons (fz_sc _ _) (fzL_cons (fz_sc _ _) fzL_nil)))
    · refine bind_b fun x28 h28 => ?_
      refine imp (opM_of (show _ = some ((AV.ept [(strA x28)] 0), []) from (idx_lst (E := strE) rfl h28))) ?_
      refine imp (opM_of (show _ = some ((strA x28), []) from rfl)) ?_
      refine imp exStr_b ?_
      refine bind_b fun x29 h29 => ?_
      refine imp (opM_of (show _ = some ((AV.ept [(strA x29)] 0), []) from (idx_lst (E := strE) rfl h29))) ?_
      refine imp (opM_of (show _ = some ((strA x29), []) from rfl)) ?_
      refine imp exStr_b ?_
      refine bind_b fun x30 h30 => ?_
      refine imp (opM_of (show _ = some ((AV.ept [(strA x30)] 0), []) from (idx_lst (E := strE) rfl h30))) ?_
      refine imp (opM_of (show _ = some ((strA x30), []) from rfl)) ?_
      refine imp exStr_b ?_
      refine bind_b fun x34 h34 => ?_
      refine imp (callF_says (sg35 h34)) ?_
      refine imp exT2_b ?_
      refine imp exA4_b ?_
      refine imp exStr_b ?_
      refine imp ex_i64_b ?_
      refine imp ex_i64_b ?_
      refine imp exStr_b ?_
      refine imp exB_b ?_
      refine imp (storeW_cells (sz := 4) (by kernel_rfl) (by kernel_rfl) rfl rfl (cs := [(strA (⟨#[]⟩ : ByteArray)), (intA (0)), (intA (0)), (strA (⟨#[]⟩ : ByteArray))]) (cs' := [(strA x34.1.Call), (intA x34.1.Kind), (intA x34.1.Value), (strA x34.1.Fix)]) (ty := 24) (by first | rfl | (rw [look'_mem (by first | rfl | simp [topId_blk] | simp [topId])]; first | rfl | (simp (disch := first | decide | assumption) only [mpushs_nil, mpushs_cons, mget_hd, mget_tl, mget_appW_o, mget_appW_n, mget_appW_e]))) rfl rfl) ?_
      refine imp (chk_of (by kernel_rfl)) ?_
      refine cond_b (fun _ => ?_) (fun _ => ?_)
      · refine bind_b fun x35 h35 => ?_
        refine imp (opM_of (show _ = some ((AV.ept [(strA x35)] 0), []) from (idx_lst (E := strE) rfl h35))) ?_
        refine imp (opM_of (show _ = some ((strA x35), []) from rfl)) ?_
        refine imp exStr_b ?_
        refine bind_b fun x36 h36 => ?_
        refine imp (opM_of (show _ = some ((AV.ept [(strA x36)] 0), []) from (idx_lst (E := strE) rfl h36))) ?_
        refine imp (opM_of (show _ = some ((strA x36), []) from rfl)) ?_
        refine imp exStr_b ?_
        refine bind_b fun x37 h37 => ?_
        refine imp (opM_of (show _ = some ((AV.ept [(strA x37)] 0), []) from (idx_lst (E := strE) rfl h37))) ?_
        refine imp (opM_of (show _ = some ((strA x37), []) from rfl)) ?_
        refine imp exStr_b ?_
        refine bind_b fun x38 h38 => ?_
        refine imp (callF_says (sg35 h38)) ?_
        refine imp exT2_b ?_
        refine imp exA4_b ?_
        refine imp exStr_b ?_
        refine imp ex_i64_b ?_
        refine imp ex_i64_b ?_
        refine imp exStr_b ?_
        refine imp exB_b ?_
        refine imp (storeW_cells (sz := 4) (by kernel_rfl) (by kernel_rfl) rfl rfl (cs := [(strA x34.1.Call), (intA x34.1.Kind), (intA x34.1.Value), (strA x34.1.Fix)]) (cs' := [(strA x38.1.Call), (intA x38.1.Kind), (intA x38.1.Value), (strA x38.1.Fix)]) (ty := 24) (by first | rfl | (rw [look'_mem (by first | rfl | simp [topId_blk] | simp [topId])]; first | rfl | (simp (disch := first | decide | assumption) only [mpushs_nil, mpushs_cons, mget_hd, mget_tl, mget_appW_o, mget_appW_n, mget_appW_e]))) rfl rfl) ?_
        refine imp (chk_of (by kernel_rfl)) ?_
        refine cond_b (fun _ => ?_) (fun _ => ?_)
        · refine imp (opP_of (show _ = some ((AV.agg [(strA (⟨#[]⟩ : ByteArray)), (intA (0)), (intA (0)), (strA (⟨#[]⟩ : ByteArray))]), []) from rfl)) ?_
          refine imp (storeW_cells (sz := 4) (by kernel_rfl) (by kernel_rfl) rfl rfl (cs := [(strA (⟨#[]⟩ : ByteArray)), (intA (0)), (intA (0)), (strA (⟨#[]⟩ : ByteArray))]) (cs' := [(strA (⟨#[]⟩ : ByteArray)), (intA (0)), (intA (0)), (strA (⟨#[]⟩ : ByteArray))]) (ty := 24) (by first | rfl | (simp (disch := first | decide | assumption) only [mpushs_nil, mpushs_cons, mget_hd, mget_tl, mget_appW_o, mget_appW_n, mget_appW_e])) rfl rfl) ?_
          exact fun hg => retN rfl (hR _ (Option.some.inj hg).symm) (fzL_cons (fz_el (E := TClearance.E) _ (⟨(⟨#[]⟩ : ByteArray), (0), (0), (⟨#[]⟩ : ByteArray)⟩ : TClearance)) (fzL_cons (fz_sc _ _) (fzL_cons (fz_sc _ _) fzL_nil)))
        · refine imp (opP_of (show _ = some ((AV.agg [(strA x38.1.Call), (intA x38.1.Kind), (intA x38.1.Value), (strA x38.1.Fix)]), []) from (ldA_ptr (b := ⟨[(strA x38.1.Call), (intA x38.1.Kind), (intA x38.1.Value), (strA x38.1.Fix)], 24⟩) (by first | rfl | (simp (disch := first | decide | assumption) only [mpushs_nil, mpushs_cons, mget_hd, mget_tl, mget_appW_o, mget_appW_n, mget_appW_e])) rfl))) ?_
          refine imp exA4_b ?_
          refine imp exStr_b ?_
          refine imp ex_i64_b ?_
          refine imp ex_i64_b ?_
          refine imp exStr_b ?_
          refine bind_b fun x39 h39 => ?_
          refine imp (callQ_says (sg32 h39)) ?_
          refine imp ex_i64_b ?_
          refine cond_b (fun _ => ?_) (fun _ => ?_)
          · refine imp (opP_of (show _ = some ((AV.agg [(strA (⟨#[]⟩ : ByteArray)), (intA (0)), (intA (0)), (strA (⟨#[]⟩ : ByteArray))]), []) from rfl)) ?_
            refine imp (storeW_cells (sz := 4) (by kernel_rfl) (by kernel_rfl) rfl rfl (cs := [(strA (⟨#[]⟩ : ByteArray)), (intA (0)), (intA (0)), (strA (⟨#[]⟩ : ByteArray))]) (cs' := [(strA (⟨#[]⟩ : ByteArray)), (intA (0)), (intA (0)), (strA (⟨#[]⟩ : ByteArray))]) (ty := 24) (by first | rfl | (simp (disch := first | decide | assumption) only [mpushs_nil, mpushs_cons, mget_hd, mget_tl, mget_appW_o, mget_appW_n, mget_appW_e])) rfl rfl) ?_
            exact fun hg => retN rfl (hR _ (Option.some.inj hg).symm) (fzL_cons (fz_el (E := TClearance.E) _ (⟨(⟨#[]⟩ : ByteArray), (0), (0), (⟨#[]⟩ : ByteArray)⟩ : TClearance)) (fzL_cons (fz_sc _ _) (fzL_cons (fz_sc _ _) fzL_nil)))
          · refine imp (opP_of (show _ = some ((AV.agg [(strA x38.1.Call), (intA x38.1.Kind), (intA x38.1.Value), (strA x38.1.Fix)]), []) from (ldA_ptr (b := ⟨[(strA x38.1.Call), (intA x38.1.Kind), (intA x38.1.Value), (strA x38.1.Fix)], 24⟩) (by first | rfl | (simp (disch := first | decide | assumption) only [mpushs_nil, mpushs_cons, mget_hd, mget_tl, mget_appW_o, mget_appW_n, mget_appW_e])) rfl))) ?_
            refine imp exA4_b ?_
            refine imp exStr_b ?_
            refine imp ex_i64_b ?_
            refine imp ex_i64_b ?_
            refine imp exStr_b ?_
            refine imp (storeW_cells (sz := 4) (by kernel_rfl) (by kernel_rfl) rfl rfl (cs := [(strA (⟨#[]⟩ : ByteArray)), (intA (0)), (intA (0)), (strA (⟨#[]⟩ : ByteArray))]) (cs' := [(strA x38.1.Call), (intA x38.1.Kind), (intA x38.1.Value), (strA x38.1.Fix)]) (ty := 24) (by first | rfl | (simp (disch := first | decide | assumption) only [mpushs_nil, mpushs_cons, mget_hd, mget_tl, mget_appW_o, mget_appW_n, mget_appW_e])) rfl rfl) ?_
            exact fun hg => retN rfl (hR _ (Option.some.inj hg).symm) (fzL_cons (fz_el (E := TClearance.E) _ x38.1) (fzL_cons (fz_sc _ _) (fzL_cons (fz_sc _ _) fzL_nil)))
      · refine cond_b (fun _ => ?_) (fun _ => ?_)
        · refine imp (opP_of (show _ = some ((AV.agg [(strA (⟨#[]⟩ : ByteArray)), (intA (0)), (intA (0)), (strA (⟨#[]⟩ : ByteArray))]), []) from rfl)) ?_
          refine imp (storeW_cells (sz := 4) (by kernel_rfl) (by kernel_rfl) rfl rfl (cs := [(strA (⟨#[]⟩ : ByteArray)), (intA (0)), (intA (0)), (strA (⟨#[]⟩ : ByteArray))]) (cs' := [(strA (⟨#[]⟩ : ByteArray)), (intA (0)), (intA (0)), (strA (⟨#[]⟩ : ByteArray))]) (ty := 24) (by first | rfl | (simp (disch := first | decide | assumption) only [mpushs_nil, mpushs_cons, mget_hd, mget_tl, mget_appW_o, mget_appW_n, mget_appW_e])) rfl rfl) ?_
          exact fun hg => retN rfl (hR _ (Option.some.inj hg).symm) (fzL_cons (fz_el (E := TClearance.E) _ (⟨(⟨#[]⟩ : ByteArray), (0), (0), (⟨#[]⟩ : ByteArray)⟩ : TClearance)) (fzL_cons (fz_sc _ _) (fzL_cons (fz_sc _ _) fzL_nil)))
        · refine imp (opP_of (show _ = some ((AV.agg [(strA x34.1.Call), (intA x34.1.Kind), (intA x34.1.Value), (strA x34.1.Fix)]), []) from (ldA_ptr (b := ⟨[(strA x34.1.Call), (intA x34.1.Kind), (intA x34.1.Value), (strA x34.1.Fix)], 24⟩) (by first | rfl | (simp (disch := first | decide | assumption) only [mpushs_nil, mpushs_cons, mget_hd, mget_tl, mget_appW_o, mget_appW_n, mget_appW_e])) rfl))) ?_
          refine imp exA4_b ?_
          refine imp exStr_b ?_
          refine imp ex_i64_b ?_
          refine imp ex_i64_b ?_
          refine imp exStr_b ?_
          refine bind_b fun x40 h40 => ?_
          refine imp (callQ_says (sg32 h40)) ?_
          refine imp ex_i64_b ?_
          refine cond_b (fun _ => ?_) (fun _ => ?_)
          · refine imp (opP_of (show _ = some ((AV.agg [(strA (⟨#[]⟩ : ByteArray)), (intA (0)), (intA (0)), (strA (⟨#[]⟩ : ByteArray))]), []) from rfl)) ?_
            refine imp (storeW_cells (sz := 4) (by kernel_rfl) (by kernel_rfl) rfl rfl (cs := [(strA (⟨#[]⟩ : ByteArray)), (intA (0)), (intA (0)), (strA (⟨#[]⟩ : ByteArray))]) (cs' := [(strA (⟨#[]⟩ : ByteArray)), (intA (0)), (intA (0)), (strA (⟨#[]⟩ : ByteArray))]) (ty := 24) (by first | rfl | (simp (disch := first | decide | assumption) only [mpushs_nil, mpushs_cons, mget_hd, mget_tl, mget_appW_o, mget_appW_n, mget_appW_e])) rfl rfl) ?_
            exact fun hg => retN rfl (hR _ (Option.some.inj hg).symm) (fzL_cons (fz_el (E := TClearance.E) _ (⟨(⟨#[]⟩ : ByteArray), (0), (0), (⟨#[]⟩ : ByteArray)⟩ : TClearance)) (fzL_cons (fz_sc _ _) (fzL_cons (fz_sc _ _) fzL_nil)))
          · refine imp (opP_of (show _ = some ((AV.agg [(strA x34.1.Call), (intA x34.1.Kind), (intA x34.1.Value), (strA x34.1.Fix)]), []) from (ldA_ptr (b := ⟨[(strA x34.1.Call), (intA x34.1.Kind), (intA x34.1.Value), (strA x34.1.Fix)], 24⟩) (by first | rfl | (simp (disch := first | decide | assumption) only [mpushs_nil, mpushs_cons, mget_hd, mget_tl, mget_appW_o, mget_appW_n, mget_appW_e])) rfl))) ?_
            refine imp exA4_b ?_
            refine imp exStr_b ?_
            refine imp ex_i64_b ?_
            refine imp ex_i64_b ?_
            refine imp exStr_b ?_
            refine imp (storeW_cells (sz := 4) (by kernel_rfl) (by kernel_rfl) rfl rfl (cs := [(strA (⟨#[]⟩ : ByteArray)), (intA (0)), (intA (0)), (strA (⟨#[]⟩ : ByteArray))]) (cs' := [(strA x34.1.Call), (intA x34.1.Kind), (intA x34.1.Value), (strA x34.1.Fix)]) (ty := 24) (by first | rfl | (simp (disch := first | decide | assumption) only [mpushs_nil, mpushs_cons, mget_hd, mget_tl, mget_appW_o, mget_appW_n, mget_appW_e])) rfl rfl) ?_
            exact fun hg => retN rfl (hR _ (Option.some.inj hg).symm) (fzL_cons (fz_el (E := TClearance.E) _ x34.1) (fzL_cons (fz_sc _ _) (fzL_cons (fz_sc _ _) fzL_nil)))
theorem sg19 {n : Nat} {a0 : ByteArray} {t : ρ19} (h : g19 n a0 = some t) : Says Tryd.prog KK.gl 19 [(strA a0)] ((AV.tup [(AV.agg (TClearance.E.enc t.1)), (boolA t.2.1), (intA t.2.2)])) :=
  says_of_own (by first | rfl | simp [cleans, clean, encs_clean, En.cln]) (by first | rfl | simp [cleans, clean, encs_clean, En.cln]) (F19_own a0 _ (g19_ok n a0 (Ans ((AV.tup [(AV.agg (TClearance.E.enc t.1)), (boolA t.2.1), (intA t.2.2)]))) (fun r e u m h => by rw [e]; exact h) h))
/- skyway/skywaykeep3.phraseFact -/
theorem g16_ok (n : Nat) {t : ρ16} (R : AV → Mem → Prop) (hR : ∀ r : ρ16, t = r → ∀ u m, Ans ((boolA r)) u m → R u m) : g16 n  = some t → F16  R := by
  unfold g16 F16
  refine bind_b fun x0 h0 => ?_
  refine imp (callQ_says (sg21 h0)) ?_
  refine imp exA4_b ?_
  refine imp exStr_b ?_
  refine imp ex_i64_b ?_
  refine imp ex_i64_b ?_
  refine imp exStr_b ?_
  refine bind_b fun x21 h21 => ?_
  refine imp (callQ_says (sg17 h21)) ?_
  refine imp exT2_b ?_
  refine imp exStr_b ?_
  refine imp ex_i64_b ?_
  refine bind_b fun x26 h26 => ?_
  refine imp (callQ_says (sg18 h26)) ?_
  refine imp exT2_b ?_
  refine imp exStr_b ?_
  refine imp ex_i64_b ?_
  refine bind_b fun x41 h41 => ?_
  refine imp (callQ_says (sg19 h41)) ?_
  refine imp exT3_b ?_
  refine imp exA4_b ?_
  refine imp exStr_b ?_
  refine imp ex_i64_b ?_
  refine imp ex_i64_b ?_
  refine imp exStr_b ?_
  refine imp exB_b ?_
  refine imp ex_i64_b ?_
  refine bind_b fun x42 h42 => ?_
  refine imp (callQ_says (sg19 h42)) ?_
  refine imp exT3_b ?_
  refine imp exA4_b ?_
  refine imp exStr_b ?_
  refine imp ex_i64_b ?_
  refine imp ex_i64_b ?_
  refine imp exStr_b ?_
  refine imp exB_b ?_
  refine imp ex_i64_b ?_
  refine cond_b (fun _ => ?_) (fun _ => ?_)
  · refine cond_b (fun _ => ?_) (fun _ => ?_)
    · refine cond_b (fun _ => ?_) (fun _ => ?_)
      · refine cond_b (fun _ => ?_) (fun _ => ?_)
        · refine cond_b (fun _ => ?_) (fun _ => ?_)
          · refine cond_b (fun _ => ?_) (fun _ => ?_)
            · refine imp (opP_of (show _ = some ((boolA (decide (x41.1 = x0))), []) from (TClearance.eql24 (x41.1) (x0)))) ?_
              refine imp exB_b ?_
              refine cond_b (fun _ => ?_) (fun _ => ?_)
              · refine imp (opP_of (show _ = some ((boolA (decide (x42.1 = x0))), []) from (TClearance.eql24 (x42.1) (x0)))) ?_
                refine imp exB_b ?_
                refine cond_b (fun _ => ?_) (fun _ => ?_)
                · refine cond_b (fun _ => ?_) (fun _ => ?_)
                  · refine cond_b (fun _ => ?_) (fun _ => ?_)
                    · refine imp (opP_of (show _ = some ((AV.agg [(strA (⟨#[]⟩ : ByteArray)), (intA (0)), (intA (0)), (strA (⟨#[]⟩ : ByteArray))]), []) from rfl)) ?_
                      refine bind_b fun x43 h43 => ?_
                      refine imp (callQ_says (sg32 h43)) ?_
                      refine imp ex_i64_b ?_
                      exact fun hg => ret1 (hR _ (Option.some.inj hg).symm) (fz_sc _ _)
                    · exact fun hg => ret1 (hR _ (Option.some.inj hg).symm) (fz_sc _ _)
                  · exact fun hg => ret1 (hR _ (Option.some.inj hg).symm) (fz_sc _ _)
                · exact fun hg => ret1 (hR _ (Option.some.inj hg).symm) (fz_sc _ _)
              · exact fun hg => ret1 (hR _ (Option.some.inj hg).symm) (fz_sc _ _)
            · exact fun hg => ret1 (hR _ (Option.some.inj hg).symm) (fz_sc _ _)
          · exact fun hg => ret1 (hR _ (Option.some.inj hg).symm) (fz_sc _ _)
        · exact fun hg => ret1 (hR _ (Option.some.inj hg).symm) (fz_sc _ _)
      · exact fun hg => ret1 (hR _ (Option.some.inj hg).symm) (fz_sc _ _)
    · exact fun hg => ret1 (hR _ (Option.some.inj hg).symm) (fz_sc _ _)
  · exact fun hg => ret1 (hR _ (Option.some.inj hg).symm) (fz_sc _ _)
theorem sg16 {n : Nat} {t : ρ16} (h : g16 n  = some t) : Says Tryd.prog KK.gl 16 [] ((boolA t)) :=
  says_of_own (by first | rfl | simp [cleans, clean, encs_clean, En.cln]) (by first | rfl | simp [cleans, clean, encs_clean, En.cln]) (F16_own  _ (g16_ok n  (Ans ((boolA t))) (fun r e u m h => by rw [e]; exact h) h))
/- skyway/skywaykeep3.PhraseBacks -/
theorem g5_ok (n : Nat) (a0 : TClearance) {t : ρ5} (R : AV → Mem → Prop) (hR : ∀ r : ρ5, t = r → ∀ u m, Ans ((boolA r)) u m → R u m) : g5 n a0 = some t → F5 a0.Call a0.Kind a0.Value a0.Fix R := by
  unfold g5 F5
  refine bind_b fun x44 h44 => ?_
  refine imp (callQ_says (sg16 h44)) ?_
  refine imp exB_b ?_
  refine cond_b (fun _ => ?_) (fun _ => ?_)
  · exact fun hg => ret1 (hR _ (Option.some.inj hg).symm) (fz_sc _ _)
  · refine bind_b fun x45 h45 => ?_
    refine imp (callQ_says (sg17 h45)) ?_
    refine imp exT2_b ?_
    refine imp exStr_b ?_
    refine imp ex_i64_b ?_
    refine bind_b fun x46 h46 => ?_
    refine imp (callQ_says (sg18 h46)) ?_
    refine imp exT2_b ?_
    refine imp exStr_b ?_
    refine imp ex_i64_b ?_
    refine cond_b (fun _ => ?_) (fun _ => ?_)
    · refine cond_b (fun _ => ?_) (fun _ => ?_)
      · refine cond_b (fun _ => ?_) (fun _ => ?_)
        · exact fun hg => ret1 (hR _ (Option.some.inj hg).symm) (fz_sc _ _)
        · exact fun hg => ret1 (hR _ (Option.some.inj hg).symm) (fz_sc _ _)
      · exact fun hg => ret1 (hR _ (Option.some.inj hg).symm) (fz_sc _ _)
    · refine bind_b fun x47 h47 => ?_
      refine imp (callQ_says (sg19 h47)) ?_
      refine imp exT3_b ?_
      refine imp exA4_b ?_
      refine imp exStr_b ?_
      refine imp ex_i64_b ?_
      refine imp ex_i64_b ?_
      refine imp exStr_b ?_
      refine imp exB_b ?_
      refine imp ex_i64_b ?_
      refine bind_b fun x48 h48 => ?_
      refine imp (callQ_says (sg19 h48)) ?_
      refine imp exT3_b ?_
      refine imp exA4_b ?_
      refine imp exStr_b ?_
      refine imp ex_i64_b ?_
      refine imp ex_i64_b ?_
      refine imp exStr_b ?_
      refine imp exB_b ?_
      refine imp ex_i64_b ?_
      refine cond_b (fun _ => ?_) (fun _ => ?_)
      · refine cond_b (fun _ => ?_) (fun _ => ?_)
        · refine cond_b (fun _ => ?_) (fun _ => ?_)
          · refine imp (opP_of (show _ = some ((boolA (decide (a0 = x47.1))), []) from (TClearance.eql24 (a0) (x47.1)))) ?_
            refine imp exB_b ?_
            refine cond_b (fun _ => ?_) (fun _ => ?_)
            · refine imp (opP_of (show _ = some ((boolA (decide (a0 = x48.1))), []) from (TClearance.eql24 (a0) (x48.1)))) ?_
              refine imp exB_b ?_
              refine cond_b (fun _ => ?_) (fun _ => ?_)
              · refine cond_b (fun _ => ?_) (fun _ => ?_)
                · exact fun hg => ret1 (hR _ (Option.some.inj hg).symm) (fz_sc _ _)
                · exact fun hg => ret1 (hR _ (Option.some.inj hg).symm) (fz_sc _ _)
              · exact fun hg => ret1 (hR _ (Option.some.inj hg).symm) (fz_sc _ _)
            · exact fun hg => ret1 (hR _ (Option.some.inj hg).symm) (fz_sc _ _)
          · exact fun hg => ret1 (hR _ (Option.some.inj hg).symm) (fz_sc _ _)
        · exact fun hg => ret1 (hR _ (Option.some.inj hg).symm) (fz_sc _ _)
      · exact fun hg => ret1 (hR _ (Option.some.inj hg).symm) (fz_sc _ _)
theorem sg5 {n : Nat} {a0 : TClearance} {t : ρ5} (h : g5 n a0 = some t) : Says Tryd.prog KK.gl 5 [(AV.agg [(strA a0.Call), (intA a0.Kind), (intA a0.Value), (strA a0.Fix)])] ((boolA t)) :=
  says_of_own (by first | rfl | simp [cleans, clean, encs_clean, En.cln]) (by first | rfl | simp [cleans, clean, encs_clean, En.cln]) (F5_own a0.Call a0.Kind a0.Value a0.Fix _ (g5_ok n a0 (Ans ((boolA t))) (fun r e u m h => by rw [e]; exact h) h))
/- skyway/skywaykeep3.PhraseReads -/
theorem g6_ok (n : Nat) (a0 : ByteArray) {t : ρ6} (R : AV → Mem → Prop) (hR : ∀ r : ρ6, t = r → ∀ u m, Ans ((boolA r)) u m → R u m) : g6 n a0 = some t → F6 a0 R := by
  unfold g6 F6
  refine bind_b fun x49 h49 => ?_
  refine imp (callQ_says (sg16 h49)) ?_
  refine imp exB_b ?_
  refine cond_b (fun _ => ?_) (fun _ => ?_)
  · exact fun hg => ret1 (hR _ (Option.some.inj hg).symm) (fz_sc _ _)
  · refine bind_b fun x50 h50 => ?_
    refine imp (callQ_says (sg19 h50)) ?_
    refine imp exT3_b ?_
    refine imp exA4_b ?_
    refine imp exStr_b ?_
    refine imp ex_i64_b ?_
    refine imp ex_i64_b ?_
    refine imp exStr_b ?_
    refine imp exB_b ?_
    refine imp ex_i64_b ?_
    refine cond_b (fun _ => ?_) (fun _ => ?_)
    · refine imp (opP_of (show _ = some ((AV.agg [(strA (⟨#[]⟩ : ByteArray)), (intA (0)), (intA (0)), (strA (⟨#[]⟩ : ByteArray))]), []) from rfl)) ?_
      refine imp (opP_of (show _ = some ((boolA (decide (x50.1 = (⟨(⟨#[]⟩ : ByteArray), (0), (0), (⟨#[]⟩ : ByteArray)⟩ : TClearance)))), []) from (TClearance.eql24 (x50.1) ((⟨(⟨#[]⟩ : ByteArray), (0), (0), (⟨#[]⟩ : ByteArray)⟩ : TClearance))))) ?_
      refine imp exB_b ?_
      refine cond_b (fun _ => ?_) (fun _ => ?_)
      · exact fun hg => ret1 (hR _ (Option.some.inj hg).symm) (fz_sc _ _)
      · exact fun hg => ret1 (hR _ (Option.some.inj hg).symm) (fz_sc _ _)
    · refine bind_b fun x51 h51 => ?_
      refine imp (callQ_says (sg17 h51)) ?_
      refine imp exT2_b ?_
      refine imp exStr_b ?_
      refine imp ex_i64_b ?_
      refine cond_b (fun _ => ?_) (fun _ => ?_)
      · refine bind_b fun x52 h52 => ?_
        refine imp (callQ_says (sg18 h52)) ?_
        refine imp exT2_b ?_
        refine imp exStr_b ?_
        refine imp ex_i64_b ?_
        refine cond_b (fun _ => ?_) (fun _ => ?_)
        · exact fun hg => ret1 (hR _ (Option.some.inj hg).symm) (fz_sc _ _)
        · exact fun hg => ret1 (hR _ (Option.some.inj hg).symm) (fz_sc _ _)
      · refine cond_b (fun _ => ?_) (fun _ => ?_)
        · exact fun hg => ret1 (hR _ (Option.some.inj hg).symm) (fz_sc _ _)
        · exact fun hg => ret1 (hR _ (Option.some.inj hg).symm) (fz_sc _ _)
theorem sg6 {n : Nat} {a0 : ByteArray} {t : ρ6} (h : g6 n a0 = some t) : Says Tryd.prog KK.gl 6 [(strA a0)] ((boolA t)) :=
  says_of_own (by first | rfl | simp [cleans, clean, encs_clean, En.cln]) (by first | rfl | simp [cleans, clean, encs_clean, En.cln]) (F6_own a0 _ (g6_ok n a0 (Ans ((boolA t))) (fun r e u m h => by rw [e]; exact h) h))
/- skyway/skywaykeep3.readbackFact -/
theorem ev8 : evalsTo Tryd.prog KF 300 8 = some true := by decide +kernel
theorem sg8 {n : Nat} {t : ρ8} (h : g8 n = some t) : Says Tryd.prog KK.gl 8 [] (boolA t) := by
  cases h
  exact says_of_evals (K := KF) fol (k := 300) ev8
/- skyway/readback.Compare -/
theorem B20_1_ok (n : Nat) (c4 : Int) (c50 : List T67) (c51 : Int) (v9 : Int) (v52 : Int) {t : (Int × Int) ⊕ ρ20} (R : AV → Mem → Prop) (N0 : St → Prop) (hR : ∀ r : ρ20, t = (.inr r) → ∀ u m, Ans ((AV.tup [(intA r.1), (intA r.2)])) u m → R u m) (hN0 : ∀ y : Int × Int, t = (.inl y) → ∀ s' : St, Weak KK 64 0 s' (h20_1 c4 c4 y.1 (lstA T67.E c50) c51 y.2 []) → N0 s') : S20_1 n c4 c50 c51 v9 v52 = some t → B20_1 c4 c4 v9 (lstA T67.E c50) c51 v52 [] R N0 := by
  unfold S20_1 B20_1
  refine cond_b (fun _ => ?_) (fun _ => ?_)
  · refine bind_b fun x57 h57 => ?_
    refine imp (opP_of (show _ = some ((AV.ept [(boolA x57.differs), (intA x57.bit)] 0), []) from (idx_lst (E := T67.E) rfl h57))) ?_
    refine imp (opP_of (show _ = some ((AV.agg [(boolA x57.differs), (intA x57.bit)]), []) from rfl)) ?_
    refine imp exA2_b ?_
    refine imp exB_b ?_
    refine imp ex_i64_b ?_
    refine cond_b (fun _ => ?_) (fun _ => ?_)
    · exact fun hg => hN0 _ (Option.some.inj hg).symm _ (weak_mem [] rfl rfl rfl (okW_cons (.inl (leV_refl _)) (okW_cons (.inl (leV_refl _)) (okW_cons (.inl (leV_refl _)) (okW_cons (ent_lst (E := T67.E) _ false) (okW_cons (.inl (leV_refl _)) (okW_cons (.inl (leV_refl _)) okW_nil)))))) okB_nil')
    · exact fun hg => hN0 _ (Option.some.inj hg).symm _ (weak_mem [] rfl rfl rfl (okW_cons (.inl (leV_refl _)) (okW_cons (.inl (leV_refl _)) (okW_cons (.inl (leV_refl _)) (okW_cons (ent_lst (E := T67.E) _ false) (okW_cons (.inl (leV_refl _)) (okW_cons (.inl (leV_refl _)) okW_nil)))))) okB_nil')
  · exact fun hg => retN rfl (hR _ (Option.some.inj hg).symm) (fzL_cons (fz_sc _ _) (fzL_cons (fz_sc _ _) fzL_nil))
theorem L20_1_ok (n : Nat) (c4 : Int) (c50 : List T67) (c51 : Int) {t : ρ20} (R : AV → Mem → Prop) (hR : ∀ r : ρ20, t = r → ∀ u m, Ans ((AV.tup [(intA r.1), (intA r.2)])) u m → R u m) (k : Nat) (x : Int × Int) (hx : iterO (fun y : Int × Int => S20_1 n c4 c50 c51 y.1 y.2) k x = some t) {s : St} (hw : Weak KK 64 0 s (h20_1 c4 c4 x.1 (lstA T67.E c50) c51 x.2 [])) : Tri Tryd.prog KK 64 0 (.loop c20_1) s (q20_1 R ) :=
  L20_1 R  (σ := Nat × (Int × Int)) (fun z => iterO (fun y : Int × Int => S20_1 n c4 c50 c51 y.1 y.2) z.1 z.2 = some t) (fun z => c4) (fun z => c4) (fun z => z.2.1) (fun z => (lstA T67.E c50)) (fun z => c51) (fun z => z.2.2) (fun z => []) (fun z => z.1) (by
    rintro ⟨k, y⟩ h
    cases k with
    | zero => exact (iterO_zero h).elim
    | succ k =>
      obtain ⟨u, h1, h2, h3⟩ := iterO_elim h
      exact B20_1_ok n c4 c50 c51 y.1 y.2 R  _ (fun r e => hR r (h3 _ e).symm)  (fun y' e s' hw => ⟨(k, y'), h2 _ e, Nat.lt_succ_self k, hw⟩) h1) (k, x) hx hw
theorem B20_0_ok (n : Nat) (c4 : Int) (c14 : List TClearance) (c15 : Int) (k0_0 : ByteArray) (k0_1 : Int) (k0_2 : Int) (k0_3 : ByteArray) (k1_0 : ByteArray) (k1_1 : Int) (k1_2 : Int) (k1_3 : ByteArray) (v16 : Int) {t : (Int) ⊕ ρ20} (R : AV → Mem → Prop) (N0 : St → Prop) (hR : ∀ r : ρ20, t = (.inr r) → ∀ u m, Ans ((AV.tup [(intA r.1), (intA r.2)])) u m → R u m) (hN0 : ∀ y : Int, t = (.inl y) → ∀ s' : St, Weak KK 64 0 s' (h20_0 c4 c4 (lstA TClearance.E c14) c15 y [(0, some ⟨[(strA k0_0), (intA k0_1), (intA k0_2), (strA k0_3)], 24⟩), (1, some ⟨[(strA k1_0), (intA k1_1), (intA k1_2), (strA k1_3)], 24⟩)]) → N0 s') : S20_0 n c4 c14 c15 k0_0 k0_1 k0_2 k0_3 k1_0 k1_1 k1_2 k1_3 v16 = some t → B20_0 c4 c4 (lstA TClearance.E c14) c15 v16 [(0, some ⟨[(strA k0_0), (intA k0_1), (intA k0_2), (strA k0_3)], 24⟩), (1, some ⟨[(strA k1_0), (intA k1_1), (intA k1_2), (strA k1_3)], 24⟩)] R N0 := by
  unfold S20_0 B20_0
  refine cond_b (fun _ => ?_) (fun _ => ?_)
  · refine bind_b fun x55 h55 => ?_
    refine imp (opP_of (show _ = some ((AV.ept [(strA x55.Call), (intA x55.Kind), (intA x55.Value), (strA x55.Fix)] 0), []) from (idx_lst (E := TClearance.E) rfl h55))) ?_
    refine imp (opP_of (show _ = some ((AV.agg [(strA x55.Call), (intA x55.Kind), (intA x55.Value), (strA x55.Fix)]), []) from rfl)) ?_
    refine imp exA4_b ?_
    refine imp exStr_b ?_
    refine imp ex_i64_b ?_
    refine imp ex_i64_b ?_
    refine imp exStr_b ?_
    refine bind_b fun x56 h56 => ?_
    refine imp (callQ_says (sg32 h56)) ?_
    refine imp ex_i64_b ?_
    refine cond_b (fun _ => ?_) (fun _ => ?_)
    · exact fun hg => retN rfl (hR _ (Option.some.inj hg).symm) (fzL_cons (fz_sc _ _) (fzL_cons (fz_sc _ _) fzL_nil))
    · exact fun hg => hN0 _ (Option.some.inj hg).symm _ (weak_mem [(0, 0), (1, 1)] rfl rfl rfl (okW_cons (.inl (leV_refl _)) (okW_cons (.inl (leV_refl _)) (okW_cons (.inl (leV_refl _)) (okW_cons (.inl (leV_refl _)) (okW_cons (ent_lst (E := TClearance.E) _ false) (okW_cons (.inl (leV_refl _)) (okW_cons (.inl (leV_refl _)) okW_nil))))))) (okB_cons (okB_cells (cs := [(strA k0_0), (intA k0_1), (intA k0_2), (strA k0_3)]) (ty := 24) rfl (show mget _ 0 = _ from (by first | rfl | (simp (disch := first | decide | assumption) only [mpushs_nil, mpushs_cons, mget_hd, mget_tl, mget_appW_o, mget_appW_n, mget_appW_e])))) (okB_cons (okB_cells (cs := [(strA k1_0), (intA k1_1), (intA k1_2), (strA k1_3)]) (ty := 24) rfl (show mget _ 1 = _ from (by first | rfl | (simp (disch := first | decide | assumption) only [mpushs_nil, mpushs_cons, mget_hd, mget_tl, mget_appW_o, mget_appW_n, mget_appW_e])))) okB_nil')))
  · refine imp (opP_of (show _ = some ((strA k0_0), []) from (ldS_ptr (b := ⟨[(strA k0_0), (intA k0_1), (intA k0_2), (strA k0_3)], 24⟩) (by first | rfl | (simp (disch := first | decide | assumption) only [mpushs_nil, mpushs_cons, mget_hd, mget_tl, mget_appW_o, mget_appW_n, mget_appW_e])) rfl))) ?_
    refine imp exStr_b ?_
    refine imp (opP_of (show _ = some ((strA k1_0), []) from (ldS_ptr (b := ⟨[(strA k1_0), (intA k1_1), (intA k1_2), (strA k1_3)], 24⟩) (by first | rfl | (simp (disch := first | decide | assumption) only [mpushs_nil, mpushs_cons, mget_hd, mget_tl, mget_appW_o, mget_appW_n, mget_appW_e])) rfl))) ?_
    refine imp exStr_b ?_
    refine imp (opP_of (show _ = some ((AV.agg [(boolA (!((k0_0).toList == (k1_0).toList))), (intA (1))]), []) from rfl)) ?_
    refine imp (opP_of (show _ = some ((intA k0_1), []) from (ldS_ptr (b := ⟨[(strA k0_0), (intA k0_1), (intA k0_2), (strA k0_3)], 24⟩) (by first | rfl | (simp (disch := first | decide | assumption) only [mpushs_nil, mpushs_cons, mget_hd, mget_tl, mget_appW_o, mget_appW_n, mget_appW_e])) rfl))) ?_
    refine imp ex_i64_b ?_
    refine imp (opP_of (show _ = some ((intA k1_1), []) from (ldS_ptr (b := ⟨[(strA k1_0), (intA k1_1), (intA k1_2), (strA k1_3)], 24⟩) (by first | rfl | (simp (disch := first | decide | assumption) only [mpushs_nil, mpushs_cons, mget_hd, mget_tl, mget_appW_o, mget_appW_n, mget_appW_e])) rfl))) ?_
    refine imp ex_i64_b ?_
    refine imp (opP_of (show _ = some ((AV.agg [(boolA (k0_1 != k1_1)), (intA (2))]), []) from rfl)) ?_
    refine imp (opP_of (show _ = some ((intA k0_2), []) from (ldS_ptr (b := ⟨[(strA k0_0), (intA k0_1), (intA k0_2), (strA k0_3)], 24⟩) (by first | rfl | (simp (disch := first | decide | assumption) only [mpushs_nil, mpushs_cons, mget_hd, mget_tl, mget_appW_o, mget_appW_n, mget_appW_e])) rfl))) ?_
    refine imp ex_i64_b ?_
    refine imp (opP_of (show _ = some ((intA k1_2), []) from (ldS_ptr (b := ⟨[(strA k1_0), (intA k1_1), (intA k1_2), (strA k1_3)], 24⟩) (by first | rfl | (simp (disch := first | decide | assumption) only [mpushs_nil, mpushs_cons, mget_hd, mget_tl, mget_appW_o, mget_appW_n, mget_appW_e])) rfl))) ?_
    refine imp ex_i64_b ?_
    refine imp (opP_of (show _ = some ((AV.agg [(boolA (k0_2 != k1_2)), (intA (4))]), []) from rfl)) ?_
    refine imp (opP_of (show _ = some ((strA k0_3), []) from (ldS_ptr (b := ⟨[(strA k0_0), (intA k0_1), (intA k0_2), (strA k0_3)], 24⟩) (by first | rfl | (simp (disch := first | decide | assumption) only [mpushs_nil, mpushs_cons, mget_hd, mget_tl, mget_appW_o, mget_appW_n, mget_appW_e])) rfl))) ?_
    refine imp exStr_b ?_
    refine imp (opP_of (show _ = some ((strA k1_3), []) from (ldS_ptr (b := ⟨[(strA k1_0), (intA k1_1), (intA k1_2), (strA k1_3)], 24⟩) (by first | rfl | (simp (disch := first | decide | assumption) only [mpushs_nil, mpushs_cons, mget_hd, mget_tl, mget_appW_o, mget_appW_n, mget_appW_e])) rfl))) ?_
    refine imp exStr_b ?_
    refine imp (opP_of (show _ = some ((AV.agg [(boolA (!((k0_3).toList == (k1_3).toList))), (intA (8))]), []) from rfl)) ?_
    refine imp (opN_of (show _ = some ((blkV T67.E 100026 ([(⟨(!((k0_0).toList == (k1_0).toList)), (1)⟩ : T67), (⟨(k0_1 != k1_1), (2)⟩ : T67), (⟨(k0_2 != k1_2), (4)⟩ : T67), (⟨(!((k0_3).toList == (k1_3).toList)), (8)⟩ : T67)] : List T67)), [(100026, some ⟨encs T67.E ([(⟨(!((k0_0).toList == (k1_0).toList)), (1)⟩ : T67), (⟨(k0_1 != k1_1), (2)⟩ : T67), (⟨(k0_2 != k1_2), (4)⟩ : T67), (⟨(!((k0_3).toList == (k1_3).toList)), (8)⟩ : T67)] : List T67), 67⟩)]) from rfl)) ?_
    refine imp (opP_of (show _ = some ((intA (([(⟨(!((k0_0).toList == (k1_0).toList)), (1)⟩ : T67), (⟨(k0_1 != k1_1), (2)⟩ : T67), (⟨(k0_2 != k1_2), (4)⟩ : T67), (⟨(!((k0_3).toList == (k1_3).toList)), (8)⟩ : T67)] : List T67).length : Int)), []) from len_blk)) ?_
    refine imp ex_i64_b ?_
    refine mapInr_b fun t0 e0 => ?_
    exact fun hg => L20_1_ok n c4 ([(⟨(!((k0_0).toList == (k1_0).toList)), (1)⟩ : T67), (⟨(k0_1 != k1_1), (2)⟩ : T67), (⟨(k0_2 != k1_2), (4)⟩ : T67), (⟨(!((k0_3).toList == (k1_3).toList)), (8)⟩ : T67)] : List T67) (([(⟨(!((k0_0).toList == (k1_0).toList)), (1)⟩ : T67), (⟨(k0_1 != k1_1), (2)⟩ : T67), (⟨(k0_2 != k1_2), (4)⟩ : T67), (⟨(!((k0_3).toList == (k1_3).toList)), (8)⟩ : T67)] : List T67).length : Int) R  (fun r e => hR r (e0.trans (congrArg Sum.inr e))) n _ hg (weak_mem [] rfl rfl rfl (okW_cons (.inl (leV_refl _)) (okW_cons (.inl (leV_refl _)) (okW_cons (.inl (leV_refl _)) (okW_cons (ent_blk_frz (E := T67.E) (ty := 67) (l' := ([(⟨(!((k0_0).toList == (k1_0).toList)), (1)⟩ : T67), (⟨(k0_1 != k1_1), (2)⟩ : T67), (⟨(k0_2 != k1_2), (4)⟩ : T67), (⟨(!((k0_3).toList == (k1_3).toList)), (8)⟩ : T67)] : List T67)) rfl (by first | rfl | (simp (disch := first | decide | assumption) only [mpushs_nil, mpushs_cons, mget_hd, mget_tl, mget_appW_o, mget_appW_n, mget_appW_e])) rfl) (okW_cons (.inl (leV_refl _)) (okW_cons (.inl (leV_refl _)) okW_nil)))))) okB_nil')
theorem L20_0_ok (n : Nat) (c4 : Int) (c14 : List TClearance) (c15 : Int) (k0_0 : ByteArray) (k0_1 : Int) (k0_2 : Int) (k0_3 : ByteArray) (k1_0 : ByteArray) (k1_1 : Int) (k1_2 : Int) (k1_3 : ByteArray) {t : ρ20} (R : AV → Mem → Prop) (hR : ∀ r : ρ20, t = r → ∀ u m, Ans ((AV.tup [(intA r.1), (intA r.2)])) u m → R u m) (k : Nat) (x : Int) (hx : iterO (fun y : Int => S20_0 n c4 c14 c15 k0_0 k0_1 k0_2 k0_3 k1_0 k1_1 k1_2 k1_3 y) k x = some t) {s : St} (hw : Weak KK 64 0 s (h20_0 c4 c4 (lstA TClearance.E c14) c15 x [(0, some ⟨[(strA k0_0), (intA k0_1), (intA k0_2), (strA k0_3)], 24⟩), (1, some ⟨[(strA k1_0), (intA k1_1), (intA k1_2), (strA k1_3)], 24⟩)])) : Tri Tryd.prog KK 64 0 (.loop c20_0) s (q20_0 R ) :=
  L20_0 R  (σ := Nat × (Int)) (fun z => iterO (fun y : Int => S20_0 n c4 c14 c15 k0_0 k0_1 k0_2 k0_3 k1_0 k1_1 k1_2 k1_3 y) z.1 z.2 = some t) (fun z => c4) (fun z => c4) (fun z => (lstA TClearance.E c14)) (fun z => c15) (fun z => z.2) (fun z => [(0, some ⟨[(strA k0_0), (intA k0_1), (intA k0_2), (strA k0_3)], 24⟩), (1, some ⟨[(strA k1_0), (intA k1_1), (intA k1_2), (strA k1_3)], 24⟩)]) (fun z => z.1) (by
    rintro ⟨k, y⟩ h
    cases k with
    | zero => exact (iterO_zero h).elim
    | succ k =>
      obtain ⟨u, h1, h2, h3⟩ := iterO_elim h
      exact B20_0_ok n c4 c14 c15 k0_0 k0_1 k0_2 k0_3 k1_0 k1_1 k1_2 k1_3 y R  _ (fun r e => hR r (h3 _ e).symm)  (fun y' e s' hw => ⟨(k, y'), h2 _ e, Nat.lt_succ_self k, hw⟩) h1) (k, x) hx hw
theorem g20_ok (n : Nat) (a0 : TClearance) (a1 : TClearance) {t : ρ20} (R : AV → Mem → Prop) (hR : ∀ r : ρ20, t = r → ∀ u m, Ans ((AV.tup [(intA r.1), (intA r.2)])) u m → R u m) : g20 n a0 a1 = some t → F20 a0.Call a0.Kind a0.Value a0.Fix a1.Call a1.Kind a1.Value a1.Fix R := by
  unfold g20 F20
  refine imp (opN_of (show _ = some ((blkV TClearance.E 6 ([a0, a1] : List TClearance)), [(6, some ⟨encs TClearance.E ([a0, a1] : List TClearance), 24⟩)]) from rfl)) ?_
  refine imp (opP_of (show _ = some ((intA (([a0, a1] : List TClearance).length : Int)), []) from len_blk)) ?_
  refine imp ex_i64_b ?_
  exact fun hg => L20_0_ok n (0) ([a0, a1] : List TClearance) (([a0, a1] : List TClearance).length : Int) a0.Call a0.Kind a0.Value a0.Fix a1.Call a1.Kind a1.Value a1.Fix R  hR n _ hg (weak_mem [(0, 0), (1, 1)] rfl rfl rfl (okW_cons (.inl (leV_refl _)) (okW_cons (.inl (leV_refl _)) (okW_cons (.inl (leV_refl _)) (okW_cons (.inl (leV_refl _)) (okW_cons (ent_blk_frz (E := TClearance.E) (ty := 24) (l' := ([a0, a1] : List TClearance)) rfl (by first | rfl | (simp (disch := first | decide | assumption) only [mpushs_nil, mpushs_cons, mget_hd, mget_tl, mget_appW_o, mget_appW_n, mget_appW_e])) rfl) (okW_cons (.inl (leV_refl _)) (okW_cons (.inl (leV_refl _)) okW_nil))))))) (okB_cons (okB_cells (cs := [(strA a0.Call), (intA a0.Kind), (intA a0.Value), (strA a0.Fix)]) (ty := 24) rfl (show mget _ 0 = _ from (by first | rfl | (simp (disch := first | decide | assumption) only [mpushs_nil, mpushs_cons, mget_hd, mget_tl, mget_appW_o, mget_appW_n, mget_appW_e])))) (okB_cons (okB_cells (cs := [(strA a1.Call), (intA a1.Kind), (intA a1.Value), (strA a1.Fix)]) (ty := 24) rfl (show mget _ 1 = _ from (by first | rfl | (simp (disch := first | decide | assumption) only [mpushs_nil, mpushs_cons, mget_hd, mget_tl, mget_appW_o, mget_appW_n, mget_appW_e])))) okB_nil')))
theorem sg20 {n : Nat} {a0 : TClearance} {a1 : TClearance} {t : ρ20} (h : g20 n a0 a1 = some t) : Says Tryd.prog KK.gl 20 [(AV.agg [(strA a0.Call), (intA a0.Kind), (intA a0.Value), (strA a0.Fix)]), (AV.agg [(strA a1.Call), (intA a1.Kind), (intA a1.Value), (strA a1.Fix)])] ((AV.tup [(intA t.1), (intA t.2)])) :=
  says_of_own (by first | rfl | simp [cleans, clean, encs_clean, En.cln]) (by first | rfl | simp [cleans, clean, encs_clean, En.cln]) (F20_own a0.Call a0.Kind a0.Value a0.Fix a1.Call a1.Kind a1.Value a1.Fix _ (g20_ok n a0 a1 (Ans ((AV.tup [(intA t.1), (intA t.2)]))) (fun r e u m h => by rw [e]; exact h) h))
/- skyway/skywaykeep3.ReadbackTexts -/
theorem g7_ok (n : Nat) (a0 : TClearance) (a1 : TClearance) {t : ρ7} (R : AV → Mem → Prop) (hR : ∀ r : ρ7, t = r → ∀ u m, Ans ((boolA r)) u m → R u m) : g7 n a0 a1 = some t → F7 a0.Call a0.Kind a0.Value a0.Fix a1.Call a1.Kind a1.Value a1.Fix R := by
  unfold g7 F7
  refine bind_b fun x53 h53 => ?_
  refine imp (callQ_says (sg8 h53)) ?_
  refine imp exB_b ?_
  refine cond_b (fun _ => ?_) (fun _ => ?_)
  · exact fun hg => ret1 (hR _ (Option.some.inj hg).symm) (fz_sc _ _)
  · refine bind_b fun x54 h54 => ?_
    refine imp (callQ_says (sg16 h54)) ?_
    refine imp exB_b ?_
    refine cond_b (fun _ => ?_) (fun _ => ?_)
    · exact fun hg => ret1 (hR _ (Option.some.inj hg).symm) (fz_sc _ _)
    · refine bind_b fun x58 h58 => ?_
      refine imp (callQ_says (sg20 h58)) ?_
      refine imp exT2_b ?_
      refine imp ex_i64_b ?_
      refine imp ex_i64_b ?_
      refine cond_b (fun _ => ?_) (fun _ => ?_)
      · exact fun hg => ret1 (hR _ (Option.some.inj hg).symm) (fz_sc _ _)
      · refine bind_b fun x59 h59 => ?_
        refine imp (callQ_says (sg17 h59)) ?_
        refine imp exT2_b ?_
        refine imp exStr_b ?_
        refine imp ex_i64_b ?_
        refine bind_b fun x60 h60 => ?_
        refine imp (callQ_says (sg17 h60)) ?_
        refine imp exT2_b ?_
        refine imp exStr_b ?_
        refine imp ex_i64_b ?_
        refine bind_b fun x61 h61 => ?_
        refine imp (callQ_says (sg20 h61)) ?_
        refine imp exT2_b ?_
        refine imp ex_i64_b ?_
        refine imp ex_i64_b ?_
        refine cond_b (fun _ => ?_) (fun _ => ?_)
        · refine cond_b (fun _ => ?_) (fun _ => ?_)
          · refine cond_b (fun _ => ?_) (fun _ => ?_)
            · refine imp (opP_of (show _ = some ((boolA (((x59.1).toList == (x60.1).toList) == (x58.1 == (0)))), []) from (by kernel_rfl))) ?_
              refine imp exB_b ?_
              refine cond_b (fun _ => ?_) (fun _ => ?_)
              · refine cond_b (fun _ => ?_) (fun _ => ?_)
                · refine cond_b (fun _ => ?_) (fun _ => ?_)
                  · exact fun hg => ret1 (hR _ (Option.some.inj hg).symm) (fz_sc _ _)
                  · exact fun hg => ret1 (hR _ (Option.some.inj hg).symm) (fz_sc _ _)
                · exact fun hg => ret1 (hR _ (Option.some.inj hg).symm) (fz_sc _ _)
              · exact fun hg => ret1 (hR _ (Option.some.inj hg).symm) (fz_sc _ _)
            · exact fun hg => ret1 (hR _ (Option.some.inj hg).symm) (fz_sc _ _)
          · exact fun hg => ret1 (hR _ (Option.some.inj hg).symm) (fz_sc _ _)
        · exact fun hg => ret1 (hR _ (Option.some.inj hg).symm) (fz_sc _ _)
theorem sg7 {n : Nat} {a0 : TClearance} {a1 : TClearance} {t : ρ7} (h : g7 n a0 a1 = some t) : Says Tryd.prog KK.gl 7 [(AV.agg [(strA a0.Call), (intA a0.Kind), (intA a0.Value), (strA a0.Fix)]), (AV.agg [(strA a1.Call), (intA a1.Kind), (intA a1.Value), (strA a1.Fix)])] ((boolA t)) :=
  says_of_own (by first | rfl | simp [cleans, clean, encs_clean, En.cln]) (by first | rfl | simp [cleans, clean, encs_clean, En.cln]) (F7_own a0.Call a0.Kind a0.Value a0.Fix a1.Call a1.Kind a1.Value a1.Fix _ (g7_ok n a0 a1 (Ans ((boolA t))) (fun r e u m h => by rw [e]; exact h) h))
end Go.Proofs.YtnechdhngpajbaaDoor
