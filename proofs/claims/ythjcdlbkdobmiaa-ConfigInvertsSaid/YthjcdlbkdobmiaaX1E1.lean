/- Plain functional programs out of the program's functions, with proofs that the functions compute them; printed by wip/Ext.lean.txt. -/
import Derived.Test.YthjcdlbkdobmiaaX1G
import Derived.Test.YthjcdlbkdobmiaaX1F1
import Derived.Test.YthjcdlbkdobmiaaX1S
set_option linter.unusedVariables false
set_option linter.unusedSimpArgs false
set_option maxRecDepth 100000
set_option maxHeartbeats 4000000
namespace Go.Proofs.Ythjcdlbkdobmiaa
theorem cloneC31 {n : Nat} {look : Nat → Option ABlk} {l : List TConfigGroup} {u : Unit} (h : roomO l.length 40 = some u) : PureD Try.prog KK.gl look n 31 [lstA TConfigGroup.E l] (ownV TConfigGroup.E n l) [(n, ownB TConfigGroup.E 40 l)] :=
  made_ownC (by simp [cleans, clean, encs_clean]) (F31_own _ _ (by
    unfold F31
    exact clone_ok (E := TConfigGroup.E) rfl rfl h))
theorem cloneC32 {n : Nat} {look : Nat → Option ABlk} {l : List ByteArray} {u : Unit} (h : roomO l.length 16 = some u) : PureD Try.prog KK.gl look n 32 [lstA strE l] (ownV strE n l) [(n, ownB strE 9 l)] :=
  made_ownC (by simp [cleans, clean, encs_clean]) (F32_own _ _ (by
    unfold F32
    exact clone_ok (E := strE) rfl rfl h))
theorem cloneS32 {n : Nat} {look : Nat → Option ABlk} {args : List AV} {l : List ByteArray} {u : Unit} (h : roomO l.length 16 = some u) (hs : SnL look 6 args [lstA strE l]) : PureD Try.prog KK.gl look n 32 args (ownV strE n l) [(n, ownB strE 9 l)] :=
  made_ownS (fun _ => rfl) hs (F32_own _ _ (by
    unfold F32
    exact clone_ok (E := strE) rfl rfl h))
theorem del21o {n id : Nat} {look : Nat → Option ABlk} {L Y : List (Raw TConfigGroup.E)} {i j : Int} (hb : look id = ownB (EnO TConfigGroup.E) 40 L) (h : delO 40 L i j = some Y) : PureD Try.prog KK.gl look n 21 [ownV (EnO TConfigGroup.E) id L, intA i, intA j] (blkW (EnO TConfigGroup.E) n Y) [(n, some ⟨encs (EnO TConfigGroup.E) Y, 40⟩), (id, none)] :=
  del_mk EnO.sc rfl hb h fun a b r1 r2 h1 h2 => F21_1_call _ _ _ _ _ (by
    unfold F21_1
    exact delete_ok (by kernel_rfl) (by kernel_rfl) rfl rfl (by kernel_rfl) rfl r1 r2 h1 h2 _ (fun _ _ h => h) _ rfl _ rfl _ _ rfl rfl)
theorem del21 {n id : Nat} {look : Nat → Option ABlk} {l0 l y : List TConfigGroup} {i j : Int} (hl : l0.length = l.length) (hb : look id = ownB TConfigGroup.E 40 l) (h : delO 40 l i j = some y) : PureD Try.prog KK.gl look n 21 [ownV TConfigGroup.E id l0, intA i, intA j] (blkW TConfigGroup.E n y) [(n, some ⟨encs TConfigGroup.E y, 40⟩), (id, none)] :=
  del_opq (by intro x a ha; simp only [TConfigGroup.E, lstE, List.mem_cons, List.not_mem_nil, or_false] at ha; rcases ha with rfl | rfl <;> first | exact .inl ⟨_, rfl⟩ | exact .inr ⟨_, _, _, rfl⟩) ⟨Try.f21, _, Try.func21, rfl, by kernel_rfl⟩ hl hb h (fun hb h => del21o hb h)
/- skyway/chart.Name -/
theorem B22_0_ok (n : Nat) (c2 : Bool) (c14 : List UInt8) (c15 : Int) (v16 : Int) {t : (Int) ⊕ ρ22} (R : AV → Mem → Prop) (N0 : St → Prop) (hR : ∀ r : ρ22, t = (.inr r) → ∀ u m, Ans ((boolA r)) u m → R u m) (hN0 : ∀ y : Int, t = (.inl y) → ∀ s' : St, Weak KK 41 0 s' (h22_0 c2 (lstA byteE c14) c15 y []) → N0 s') : S22_0 n c2 c14 c15 v16 = some t → B22_0 c2 (lstA byteE c14) c15 v16 [] R N0 := by
  unfold S22_0 B22_0
  refine cond_b (fun _ => ?_) (fun _ => ?_)
  · refine bind_b fun x2 h2 => ?_
    refine imp (opP_of (show _ = some ((AV.ept [(AV.sc (.int .u8 (x2.toNat : Int)))] 0), []) from (idx_lst (E := byteE) rfl h2))) ?_
    refine imp (opP_of (show _ = some ((AV.sc (.int .u8 (x2.toNat : Int))), []) from rfl)) ?_
    refine imp ex_u8_b ?_
    refine cond_b (fun _ => ?_) (fun _ => ?_)
    · refine cond_b (fun _ => ?_) (fun _ => ?_)
      · exact fun hg => hN0 _ (Option.some.inj hg).symm _ (weak_mem [] rfl rfl rfl (okW_cons (.inl (leV_refl _)) (okW_cons (ent_lst (E := byteE) _ false) (okW_cons (.inl (leV_refl _)) (okW_cons (.inl (leV_refl _)) okW_nil)))) okB_nil')
      · refine cond_b (fun _ => ?_) (fun _ => ?_)
        · refine cond_b (fun _ => ?_) (fun _ => ?_)
          · refine cond_b (fun _ => ?_) (fun _ => ?_)
            · exact fun hg => ret1 (hR _ (Option.some.inj hg).symm) (fz_sc _ _)
            · exact fun hg => hN0 _ (Option.some.inj hg).symm _ (weak_mem [] rfl rfl rfl (okW_cons (.inl (leV_refl _)) (okW_cons (ent_lst (E := byteE) _ false) (okW_cons (.inl (leV_refl _)) (okW_cons (.inl (leV_refl _)) okW_nil)))) okB_nil')
          · exact fun hg => ret1 (hR _ (Option.some.inj hg).symm) (fz_sc _ _)
        · exact fun hg => ret1 (hR _ (Option.some.inj hg).symm) (fz_sc _ _)
    · refine cond_b (fun _ => ?_) (fun _ => ?_)
      · refine cond_b (fun _ => ?_) (fun _ => ?_)
        · refine cond_b (fun _ => ?_) (fun _ => ?_)
          · exact fun hg => ret1 (hR _ (Option.some.inj hg).symm) (fz_sc _ _)
          · exact fun hg => hN0 _ (Option.some.inj hg).symm _ (weak_mem [] rfl rfl rfl (okW_cons (.inl (leV_refl _)) (okW_cons (ent_lst (E := byteE) _ false) (okW_cons (.inl (leV_refl _)) (okW_cons (.inl (leV_refl _)) okW_nil)))) okB_nil')
        · exact fun hg => ret1 (hR _ (Option.some.inj hg).symm) (fz_sc _ _)
      · exact fun hg => ret1 (hR _ (Option.some.inj hg).symm) (fz_sc _ _)
  · exact fun hg => ret1 (hR _ (Option.some.inj hg).symm) (fz_sc _ _)
theorem L22_0_ok (n : Nat) (c2 : Bool) (c14 : List UInt8) (c15 : Int) {t : ρ22} (R : AV → Mem → Prop) (hR : ∀ r : ρ22, t = r → ∀ u m, Ans ((boolA r)) u m → R u m) (k : Nat) (x : Int) (hx : iterO (fun y : Int => S22_0 n c2 c14 c15 y) k x = some t) {s : St} (hw : Weak KK 41 0 s (h22_0 c2 (lstA byteE c14) c15 x [])) : Tri Try.prog KK 41 0 (.loop c22_0) s (q22_0 R ) :=
  L22_0 R  (σ := Nat × (Int)) (fun z => iterO (fun y : Int => S22_0 n c2 c14 c15 y) z.1 z.2 = some t) (fun z => c2) (fun z => (lstA byteE c14)) (fun z => c15) (fun z => z.2) (fun z => []) (fun z => z.1) (by
    rintro ⟨k, y⟩ h
    cases k with
    | zero => exact (iterO_zero h).elim
    | succ k =>
      obtain ⟨u, h1, h2, h3⟩ := iterO_elim h
      exact B22_0_ok n c2 c14 c15 y R  _ (fun r e => hR r (h3 _ e).symm)  (fun y' e s' hw => ⟨(k, y'), h2 _ e, Nat.lt_succ_self k, hw⟩) h1) (k, x) hx hw
theorem g22_ok (n : Nat) (a0 : ByteArray) {t : ρ22} (R : AV → Mem → Prop) (hR : ∀ r : ρ22, t = r → ∀ u m, Ans ((boolA r)) u m → R u m) : g22 n a0 = some t → F22 a0 R := by
  unfold g22 F22
  refine imp (opP_of (show _ = some ((intA (a0.size : Int)), []) from (by kernel_rfl))) ?_
  refine imp ex_i64_b ?_
  refine cond_b (fun _ => ?_) (fun _ => ?_)
  · exact fun hg => ret1 (hR _ (Option.some.inj hg).symm) (fz_sc _ _)
  · refine imp (opP_of (show _ = some ((intA (a0.size : Int)), []) from (by kernel_rfl))) ?_
    refine imp ex_i64_b ?_
    refine cond_b (fun _ => ?_) (fun _ => ?_)
    · exact fun hg => ret1 (hR _ (Option.some.inj hg).symm) (fz_sc _ _)
    · refine bind_b fun x1 h1 => ?_
      refine imp (opP_of (show _ = some ((lstA byteE (a0.data.toList)), []) from (opA_bytes (e := 5) (by kernel_rfl) (by kernel_rfl) (by kernel_rfl) h1))) ?_
      refine imp (opP_of (show _ = some ((intA ((a0.data.toList).length : Int)), []) from rfl)) ?_
      refine imp ex_i64_b ?_
      exact fun hg => L22_0_ok n false (a0.data.toList) ((a0.data.toList).length : Int) R  hR n _ hg (weak_mem [] rfl rfl rfl (okW_cons (.inl (leV_refl _)) (okW_cons (ent_lst (E := byteE) _ false) (okW_cons (.inl (leV_refl _)) (okW_cons (.inl (leV_refl _)) okW_nil)))) okB_nil')
theorem sg22 {n : Nat} {a0 : ByteArray} {t : ρ22} (h : g22 n a0 = some t) : Says Try.prog KK.gl 22 [(strA a0)] ((boolA t)) :=
  says_of_own (by first | rfl | simp [cleans, clean, encs_clean, En.cln]) (by first | rfl | simp [cleans, clean, encs_clean, En.cln]) (F22_own a0 _ (g22_ok n a0 (Ans ((boolA t))) (fun r e u m h => by rw [e]; exact h) h))
/- slices.Index[[]string,string] -/
theorem B33_0_ok (n : Nat) (a0 : List ByteArray) (a1 : ByteArray) (c4 : Int) (c7 : Int) (v8 : Int) {t : (Int) ⊕ ρ33} (R : AV → Mem → Prop) (N0 : St → Prop) (hR : ∀ r : ρ33, t = (.inr r) → ∀ u m, Ans ((intA r)) u m → R u m) (hN0 : ∀ y : Int, t = (.inl y) → ∀ s' : St, Weak KK 19 0 s' (h33_0 (lstA strE a0) a1 c4 c7 y []) → N0 s') : S33_0 n a0 a1 c4 c7 v8 = some t → B33_0 (lstA strE a0) a1 c4 c7 v8 [] R N0 := by
  unfold S33_0 B33_0
  refine cond_b (fun _ => ?_) (fun _ => ?_)
  · refine bind_b fun x7 h7 => ?_
    refine imp (opP_of (show _ = some ((AV.ept [(strA x7)] 0), []) from (idx_lst (E := strE) rfl h7))) ?_
    refine imp (opP_of (show _ = some ((strA x7), []) from rfl)) ?_
    refine imp exStr_b ?_
    refine cond_b (fun _ => ?_) (fun _ => ?_)
    · exact fun hg => ret1 (hR _ (Option.some.inj hg).symm) (fz_sc _ _)
    · exact fun hg => hN0 _ (Option.some.inj hg).symm _ (weak_mem [] rfl rfl rfl (okW_cons (ent_lst (E := strE) _ false) (okW_cons (.inl (leV_refl _)) (okW_cons (.inl (leV_refl _)) (okW_cons (.inl (leV_refl _)) (okW_cons (.inl (leV_refl _)) okW_nil))))) okB_nil')
  · exact fun hg => ret1 (hR _ (Option.some.inj hg).symm) (fz_sc _ _)
theorem L33_0_ok (n : Nat) (a0 : List ByteArray) (a1 : ByteArray) (c4 : Int) (c7 : Int) {t : ρ33} (R : AV → Mem → Prop) (hR : ∀ r : ρ33, t = r → ∀ u m, Ans ((intA r)) u m → R u m) (k : Nat) (x : Int) (hx : iterO (fun y : Int => S33_0 n a0 a1 c4 c7 y) k x = some t) {s : St} (hw : Weak KK 19 0 s (h33_0 (lstA strE a0) a1 c4 c7 x [])) : Tri Try.prog KK 19 0 (.loop c33_0) s (q33_0 R ) :=
  L33_0 R  (σ := Nat × (Int)) (fun z => iterO (fun y : Int => S33_0 n a0 a1 c4 c7 y) z.1 z.2 = some t) (fun z => (lstA strE a0)) (fun z => a1) (fun z => c4) (fun z => c7) (fun z => z.2) (fun z => []) (fun z => z.1) (by
    rintro ⟨k, y⟩ h
    cases k with
    | zero => exact (iterO_zero h).elim
    | succ k =>
      obtain ⟨u, h1, h2, h3⟩ := iterO_elim h
      exact B33_0_ok n a0 a1 c4 c7 y R  _ (fun r e => hR r (h3 _ e).symm)  (fun y' e s' hw => ⟨(k, y'), h2 _ e, Nat.lt_succ_self k, hw⟩) h1) (k, x) hx hw
theorem g33_ok (n : Nat) (a0 : List ByteArray) (a1 : ByteArray) {t : ρ33} (R : AV → Mem → Prop) (hR : ∀ r : ρ33, t = r → ∀ u m, Ans ((intA r)) u m → R u m) : g33 n a0 a1 = some t → F33 (lstA strE a0) a1 R := by
  unfold g33 F33
  refine imp (opP_of (show _ = some ((intA (a0.length : Int)), []) from rfl)) ?_
  refine imp ex_i64_b ?_
  exact fun hg => L33_0_ok n a0 a1 (0) (a0.length : Int) R  hR n _ hg (weak_mem [] rfl rfl rfl (okW_cons (ent_lst (E := strE) _ false) (okW_cons (.inl (leV_refl _)) (okW_cons (.inl (leV_refl _)) (okW_cons (.inl (leV_refl _)) (okW_cons (.inl (leV_refl _)) okW_nil))))) okB_nil')
theorem sg33 {n : Nat} {a0 : List ByteArray} {a1 : ByteArray} {t : ρ33} (h : g33 n a0 a1 = some t) : Says Try.prog KK.gl 33 [(lstA strE a0), (strA a1)] ((intA t)) :=
  says_of_own (by first | rfl | simp [cleans, clean, encs_clean, En.cln]) (by first | rfl | simp [cleans, clean, encs_clean, En.cln]) (F33_own (lstA strE a0) a1 _ (g33_ok n a0 a1 (Ans ((intA t))) (fun r e u m h => by rw [e]; exact h) h))
/- slices.Contains[[]string,string] -/
theorem g23_ok (n : Nat) (a0 : List ByteArray) (a1 : ByteArray) {t : ρ23} (R : AV → Mem → Prop) (hR : ∀ r : ρ23, t = r → ∀ u m, Ans ((boolA r)) u m → R u m) : g23 n a0 a1 = some t → F23 (lstA strE a0) a1 R := by
  unfold g23 F23
  refine bind_b fun x8 h8 => ?_
  refine imp (callQ_says (sg33 h8)) ?_
  refine imp ex_i64_b ?_
  exact fun hg => ret1 (hR _ (Option.some.inj hg).symm) (fz_sc _ _)
theorem sg23 {n : Nat} {a0 : List ByteArray} {a1 : ByteArray} {t : ρ23} (h : g23 n a0 a1 = some t) : Says Try.prog KK.gl 23 [(lstA strE a0), (strA a1)] ((boolA t)) :=
  says_of_own (by first | rfl | simp [cleans, clean, encs_clean, En.cln]) (by first | rfl | simp [cleans, clean, encs_clean, En.cln]) (F23_own (lstA strE a0) a1 _ (g23_ok n a0 a1 (Ans ((boolA t))) (fun r e u m h => by rw [e]; exact h) h))
/- skyway/config.Check -/
theorem B11_0_0_ok (n : Nat) (a0 : List TConfigGroup) (c2 : Int) (c12 : Int) (v13 : Int) (c43 : List ByteArray) (c44 : Int) (k100004_0 : ByteArray) (w45 : Int) (L90000 : List ByteArray) {t : (Int × List ByteArray) ⊕ ((Int × List ByteArray) ⊕ ρ11)} (R : AV → Mem → Prop) (N0 : St → Prop) (N1 : St → Prop) (hR : ∀ r : ρ11, t = (.inr (.inr r)) → ∀ u m, Ans ((intA r)) u m → R u m) (hN0 : ∀ y : Int × List ByteArray, t = (.inr (.inl y)) → ∀ s' : St, Weak KK 82 0 s' (h11_0 (lstA TConfigGroup.E a0) c2 (ownV strE 90000 y.2) (lstA TConfigGroup.E a0) c12 y.1 [(90000, ownB strE 9 y.2)]) → N0 s') (hN1 : ∀ y : Int × List ByteArray, t = (.inl y) → ∀ s' : St, Weak KK 82 0 s' (h11_0_0 (lstA TConfigGroup.E a0) c2 (ownV strE 90000 y.2) (lstA TConfigGroup.E a0) c12 v13 (lstA strE c43) c44 y.1 k100004_0 (lstA strE c43) [(90000, ownB strE 9 y.2)]) → N1 s') : S11_0_0 n a0 c2 c12 v13 c43 c44 k100004_0 w45 L90000 = some t → B11_0_0 (lstA TConfigGroup.E a0) c2 (ownV strE 90000 L90000) (lstA TConfigGroup.E a0) c12 v13 (lstA strE c43) c44 w45 k100004_0 (lstA strE c43) [(90000, ownB strE 9 L90000)] R N0 N1 := by
  unfold S11_0_0 B11_0_0
  refine cond_b (fun _ => ?_) (fun _ => ?_)
  · refine bind_b fun x5 h5 => ?_
    refine imp (opP_of (show _ = some ((AV.ept [(strA x5)] 0), []) from (idx_lst (E := strE) rfl h5))) ?_
    refine imp (opP_of (show _ = some ((strA x5), []) from rfl)) ?_
    refine imp exStr_b ?_
    refine bind_b fun x6 h6 => ?_
    refine imp (callQ_says (sg22 h6)) ?_
    refine imp exB_b ?_
    refine cond_b (fun _ => ?_) (fun _ => ?_)
    · exact fun hg => ret1 (hR _ (Option.some.inj hg).symm) (fz_sc _ _)
    · refine bind_b fun x9 h9 => ?_
      refine imp (callQ_pure (pure_snapN (snL_cons (sn_own (E := strE) (ty := 9) (l' := L90000) _ strE.nf rfl (by first | rfl | (simp (disch := first | decide | assumption) only [mpushs_nil, mpushs_cons, mget_hd, mget_tl, mget_appW_o, mget_appW_n, mget_appW_e]))) (snL_cons (sn_sc _ _) snL_nil)) (sg23 h9) rfl)) ?_
      refine imp exB_b ?_
      refine cond_b (fun _ => ?_) (fun _ => ?_)
      · exact fun hg => ret1 (hR _ (Option.some.inj hg).symm) (fz_sc _ _)
      · refine cond_b (fun _ => ?_) (fun _ => ?_)
        · refine bind_b fun x10 h10 => ?_
          refine imp (opP_of (show _ = some ((AV.ept [(strA x10)] 0), []) from (idx_lst (E := strE) rfl h10))) ?_
          refine imp (opP_of (show _ = some ((strA x10), []) from rfl)) ?_
          refine imp exStr_b ?_
          refine cond_b (fun _ => ?_) (fun _ => ?_)
          · exact fun hg => ret1 (hR _ (Option.some.inj hg).symm) (fz_sc _ _)
          · refine imp (opP_of (show _ = some ((intA (L90000.length : Int)), []) from len_own)) ?_
            refine imp ex_i64_b ?_
            refine cond_b (fun _ => ?_) (fun _ => ?_)
            · exact fun hg => ret1 (hR _ (Option.some.inj hg).symm) (fz_sc _ _)
            · refine imp (opN_of (show _ = some ((blkV strE 200160 ([x5] : List ByteArray)), [(200160, some ⟨encs strE ([x5] : List ByteArray), 9⟩)]) from rfl)) ?_
              refine bind_b fun x12 h12 => ?_
              refine imp (opN_of (show _ = some ((ownV strE 200161 (L90000 ++ ([x5] : List ByteArray))), (appW strE 200161 90000 9 L90000 ([x5] : List ByteArray))) from (app_own (E := strE) (l' := L90000) (xs := ([x5] : List ByteArray)) rfl rfl (cellsOf_blk (E := strE) (ty := 9) rfl rfl (by first | rfl | (simp (disch := first | decide | assumption) only [mpushs_nil, mpushs_cons, mget_hd, mget_tl, mget_appW_o, mget_appW_n, mget_appW_e]))) (by first | assumption | simp) rfl (fun hne => Eq.trans (by first | rfl | (simp (disch := first | decide | assumption) only [mpushs_nil, mpushs_cons, mget_hd, mget_tl, mget_appW_o, mget_appW_n, mget_appW_e])) (ownB_ne hne)) h12))) ?_
              exact fun hg => hN1 _ (Option.some.inj hg).symm _ (weak_mem [(90000, 200161), (100004, 100004)] rfl rfl rfl (okW_cons (ent_lst (E := TConfigGroup.E) _ false) (okW_cons (.inl (leV_refl _)) (okW_cons (ent_own (E := strE) (id := 200161) (l' := (L90000 ++ ([x5] : List ByteArray))) rfl rfl) (okW_cons (.inl (leV_refl _)) (okW_cons (ent_lst (E := TConfigGroup.E) _ false) (okW_cons (.inl (leV_refl _)) (okW_cons (.inl (leV_refl _)) (okW_cons (ent_lst (E := strE) _ false) (okW_cons (.inl (leV_refl _)) (okW_cons (.inl (leV_refl _)) okW_nil)))))))))) (okB_cons (okB_cells (cs := [(strA k100004_0), (lstA strE c43)]) (ty := 40) (by simp [clean, cleans, encs_clean]) (show mget _ 100004 = _ from (by first | rfl | (simp (disch := first | decide | assumption) only [mpushs_nil, mpushs_cons, mget_hd, mget_tl, mget_appW_o, mget_appW_n, mget_appW_e])))) (okB_cons (okB_own (E := strE) (ty := 9) (l' := (L90000 ++ ([x5] : List ByteArray))) rfl (show mget _ 200161 = _ from (by first | rfl | (simp (disch := first | decide | assumption) only [mpushs_nil, mpushs_cons, mget_hd, mget_tl, mget_appW_o, mget_appW_n, mget_appW_e])))) okB_nil')))
        · refine imp (opP_of (show _ = some ((intA (L90000.length : Int)), []) from len_own)) ?_
          refine imp ex_i64_b ?_
          refine cond_b (fun _ => ?_) (fun _ => ?_)
          · exact fun hg => ret1 (hR _ (Option.some.inj hg).symm) (fz_sc _ _)
          · refine imp (opN_of (show _ = some ((blkV strE 200152 ([x5] : List ByteArray)), [(200152, some ⟨encs strE ([x5] : List ByteArray), 9⟩)]) from rfl)) ?_
            refine bind_b fun x14 h14 => ?_
            refine imp (opN_of (show _ = some ((ownV strE 200153 (L90000 ++ ([x5] : List ByteArray))), (appW strE 200153 90000 9 L90000 ([x5] : List ByteArray))) from (app_own (E := strE) (l' := L90000) (xs := ([x5] : List ByteArray)) rfl rfl (cellsOf_blk (E := strE) (ty := 9) rfl rfl (by first | rfl | (simp (disch := first | decide | assumption) only [mpushs_nil, mpushs_cons, mget_hd, mget_tl, mget_appW_o, mget_appW_n, mget_appW_e]))) (by first | assumption | simp) rfl (fun hne => Eq.trans (by first | rfl | (simp (disch := first | decide | assumption) only [mpushs_nil, mpushs_cons, mget_hd, mget_tl, mget_appW_o, mget_appW_n, mget_appW_e])) (ownB_ne hne)) h14))) ?_
            exact fun hg => hN1 _ (Option.some.inj hg).symm _ (weak_mem [(90000, 200153), (100004, 100004)] rfl rfl rfl (okW_cons (ent_lst (E := TConfigGroup.E) _ false) (okW_cons (.inl (leV_refl _)) (okW_cons (ent_own (E := strE) (id := 200153) (l' := (L90000 ++ ([x5] : List ByteArray))) rfl rfl) (okW_cons (.inl (leV_refl _)) (okW_cons (ent_lst (E := TConfigGroup.E) _ false) (okW_cons (.inl (leV_refl _)) (okW_cons (.inl (leV_refl _)) (okW_cons (ent_lst (E := strE) _ false) (okW_cons (.inl (leV_refl _)) (okW_cons (.inl (leV_refl _)) okW_nil)))))))))) (okB_cons (okB_cells (cs := [(strA k100004_0), (lstA strE c43)]) (ty := 40) (by simp [clean, cleans, encs_clean]) (show mget _ 100004 = _ from (by first | rfl | (simp (disch := first | decide | assumption) only [mpushs_nil, mpushs_cons, mget_hd, mget_tl, mget_appW_o, mget_appW_n, mget_appW_e])))) (okB_cons (okB_own (E := strE) (ty := 9) (l' := (L90000 ++ ([x5] : List ByteArray))) rfl (show mget _ 200153 = _ from (by first | rfl | (simp (disch := first | decide | assumption) only [mpushs_nil, mpushs_cons, mget_hd, mget_tl, mget_appW_o, mget_appW_n, mget_appW_e])))) okB_nil')))
  · exact fun hg => hN0 _ (Option.some.inj hg).symm _ (weak_mem [(90000, 90000)] rfl rfl rfl (okW_cons (ent_lst (E := TConfigGroup.E) _ false) (okW_cons (.inl (leV_refl _)) (okW_cons (ent_own (E := strE) (id := 90000) (l' := L90000) rfl rfl) (okW_cons (ent_lst (E := TConfigGroup.E) _ false) (okW_cons (.inl (leV_refl _)) (okW_cons (.inl (leV_refl _)) okW_nil)))))) (okB_cons (okB_own (E := strE) (ty := 9) (l' := L90000) rfl (show mget _ 90000 = _ from (by first | rfl | (simp (disch := first | decide | assumption) only [mpushs_nil, mpushs_cons, mget_hd, mget_tl, mget_appW_o, mget_appW_n, mget_appW_e])))) okB_nil'))
theorem L11_0_0_ok (n : Nat) (a0 : List TConfigGroup) (c2 : Int) (c12 : Int) (v13 : Int) (c43 : List ByteArray) (c44 : Int) (k100004_0 : ByteArray) {t : ((Int × List ByteArray) ⊕ ρ11)} (R : AV → Mem → Prop) (N0 : St → Prop) (hR : ∀ r : ρ11, t = (.inr r) → ∀ u m, Ans ((intA r)) u m → R u m) (hN0 : ∀ y : Int × List ByteArray, t = (.inl y) → ∀ s' : St, Weak KK 82 0 s' (h11_0 (lstA TConfigGroup.E a0) c2 (ownV strE 90000 y.2) (lstA TConfigGroup.E a0) c12 y.1 [(90000, ownB strE 9 y.2)]) → N0 s') (k : Nat) (x : Int × List ByteArray) (hx : iterO (fun y : Int × List ByteArray => S11_0_0 n a0 c2 c12 v13 c43 c44 k100004_0 y.1 y.2) k x = some t) {s : St} (hw : Weak KK 82 0 s (h11_0_0 (lstA TConfigGroup.E a0) c2 (ownV strE 90000 x.2) (lstA TConfigGroup.E a0) c12 v13 (lstA strE c43) c44 x.1 k100004_0 (lstA strE c43) [(90000, ownB strE 9 x.2)])) : Tri Try.prog KK 82 0 (.loop c11_0_0) s (q11_0_0 R N0) :=
  L11_0_0 R N0 (σ := Nat × (Int × List ByteArray)) (fun z => iterO (fun y : Int × List ByteArray => S11_0_0 n a0 c2 c12 v13 c43 c44 k100004_0 y.1 y.2) z.1 z.2 = some t) (fun z => (lstA TConfigGroup.E a0)) (fun z => c2) (fun z => (ownV strE 90000 z.2.2)) (fun z => (lstA TConfigGroup.E a0)) (fun z => c12) (fun z => v13) (fun z => (lstA strE c43)) (fun z => c44) (fun z => z.2.1) (fun z => k100004_0) (fun z => (lstA strE c43)) (fun z => [(90000, ownB strE 9 z.2.2)]) (fun z => z.1) (by
    rintro ⟨k, y⟩ h
    cases k with
    | zero => exact (iterO_zero h).elim
    | succ k =>
      obtain ⟨u, h1, h2, h3⟩ := iterO_elim h
      exact B11_0_0_ok n a0 c2 c12 v13 c43 c44 k100004_0 y.1 y.2 R N0 _ (fun r e => hR r (h3 _ e).symm) (fun y' e => hN0 y' (h3 _ e).symm) (fun y' e s' hw => ⟨(k, y'), h2 _ e, Nat.lt_succ_self k, hw⟩) h1) (k, x) hx hw
theorem B11_0_ok (n : Nat) (a0 : List TConfigGroup) (c2 : Int) (c12 : Int) (v13 : Int) (L90000 : List ByteArray) {t : (Int × List ByteArray) ⊕ ρ11} (R : AV → Mem → Prop) (N0 : St → Prop) (hR : ∀ r : ρ11, t = (.inr r) → ∀ u m, Ans ((intA r)) u m → R u m) (hN0 : ∀ y : Int × List ByteArray, t = (.inl y) → ∀ s' : St, Weak KK 82 0 s' (h11_0 (lstA TConfigGroup.E a0) c2 (ownV strE 90000 y.2) (lstA TConfigGroup.E a0) c12 y.1 [(90000, ownB strE 9 y.2)]) → N0 s') : S11_0 n a0 c2 c12 v13 L90000 = some t → B11_0 (lstA TConfigGroup.E a0) c2 (ownV strE 90000 L90000) (lstA TConfigGroup.E a0) c12 v13 [(90000, ownB strE 9 L90000)] R N0 := by
  unfold S11_0 B11_0
  refine cond_b (fun _ => ?_) (fun _ => ?_)
  · refine bind_b fun x0 h0 => ?_
    refine imp (opP_of (show _ = some ((AV.ept [(strA x0.Position), (lstA strE x0.Sectors)] 0), []) from (idx_lst (E := TConfigGroup.E) rfl h0))) ?_
    refine imp (opP_of (show _ = some ((AV.agg [(strA x0.Position), (lstA strE x0.Sectors)]), []) from rfl)) ?_
    refine imp exA2_b ?_
    refine imp exStr_b ?_
    refine imp (chk_of rfl) ?_
    refine bind_b fun x3 h3 => ?_
    refine imp (callQ_says (sg22 h3)) ?_
    refine imp exB_b ?_
    refine cond_b (fun _ => ?_) (fun _ => ?_)
    · exact fun hg => ret1 (hR _ (Option.some.inj hg).symm) (fz_sc _ _)
    · refine cond_b (fun _ => ?_) (fun _ => ?_)
      · refine bind_b fun x4 h4 => ?_
        refine imp (opP_of (show _ = some ((AV.ept [(strA x4.Position), (lstA strE x4.Sectors)] 0), []) from (idx_lst (E := TConfigGroup.E) rfl h4))) ?_
        refine imp (opP_of (show _ = some ((AV.ept [(strA x4.Position), (lstA strE x4.Sectors)] 0), []) from rfl)) ?_
        refine imp (opP_of (show _ = some ((strA x4.Position), []) from rfl)) ?_
        refine imp exStr_b ?_
        refine cond_b (fun _ => ?_) (fun _ => ?_)
        · exact fun hg => ret1 (hR _ (Option.some.inj hg).symm) (fz_sc _ _)
        · refine imp (opP_of (show _ = some ((intA (x0.Sectors.length : Int)), []) from rfl)) ?_
          refine imp ex_i64_b ?_
          refine cond_b (fun _ => ?_) (fun _ => ?_)
          · exact fun hg => ret1 (hR _ (Option.some.inj hg).symm) (fz_sc _ _)
          · refine imp (opP_of (show _ = some ((intA (x0.Sectors.length : Int)), []) from rfl)) ?_
            refine imp ex_i64_b ?_
            exact fun hg => L11_0_0_ok n a0 c2 c12 v13 x0.Sectors (x0.Sectors.length : Int) x0.Position R N0 hR hN0 n _ hg (weak_mem [(90000, 90000), (100004, 100004)] rfl rfl rfl (okW_cons (ent_lst (E := TConfigGroup.E) _ false) (okW_cons (.inl (leV_refl _)) (okW_cons (ent_own (E := strE) (id := 90000) (l' := L90000) rfl rfl) (okW_cons (.inl (leV_refl _)) (okW_cons (ent_lst (E := TConfigGroup.E) _ false) (okW_cons (.inl (leV_refl _)) (okW_cons (.inl (leV_refl _)) (okW_cons (ent_lst (E := strE) _ false) (okW_cons (.inl (leV_refl _)) (okW_cons (.inl (leV_refl _)) okW_nil)))))))))) (okB_cons (okB_cells (cs := [(strA x0.Position), (lstA strE x0.Sectors)]) (ty := 40) (by simp [clean, cleans, encs_clean]) (show mget _ 100004 = _ from (by first | rfl | (simp (disch := first | decide | assumption) only [mpushs_nil, mpushs_cons, mget_hd, mget_tl, mget_appW_o, mget_appW_n, mget_appW_e])))) (okB_cons (okB_own (E := strE) (ty := 9) (l' := L90000) rfl (show mget _ 90000 = _ from (by first | rfl | (simp (disch := first | decide | assumption) only [mpushs_nil, mpushs_cons, mget_hd, mget_tl, mget_appW_o, mget_appW_n, mget_appW_e])))) okB_nil')))
      · refine imp (opP_of (show _ = some ((intA (x0.Sectors.length : Int)), []) from rfl)) ?_
        refine imp ex_i64_b ?_
        refine cond_b (fun _ => ?_) (fun _ => ?_)
        · exact fun hg => ret1 (hR _ (Option.some.inj hg).symm) (fz_sc _ _)
        · refine imp (opP_of (show _ = some ((intA (x0.Sectors.length : Int)), []) from rfl)) ?_
          refine imp ex_i64_b ?_
          exact fun hg => L11_0_0_ok n a0 c2 c12 v13 x0.Sectors (x0.Sectors.length : Int) x0.Position R N0 hR hN0 n _ hg (weak_mem [(90000, 90000), (100004, 100004)] rfl rfl rfl (okW_cons (ent_lst (E := TConfigGroup.E) _ false) (okW_cons (.inl (leV_refl _)) (okW_cons (ent_own (E := strE) (id := 90000) (l' := L90000) rfl rfl) (okW_cons (.inl (leV_refl _)) (okW_cons (ent_lst (E := TConfigGroup.E) _ false) (okW_cons (.inl (leV_refl _)) (okW_cons (.inl (leV_refl _)) (okW_cons (ent_lst (E := strE) _ false) (okW_cons (.inl (leV_refl _)) (okW_cons (.inl (leV_refl _)) okW_nil)))))))))) (okB_cons (okB_cells (cs := [(strA x0.Position), (lstA strE x0.Sectors)]) (ty := 40) (by simp [clean, cleans, encs_clean]) (show mget _ 100004 = _ from (by first | rfl | (simp (disch := first | decide | assumption) only [mpushs_nil, mpushs_cons, mget_hd, mget_tl, mget_appW_o, mget_appW_n, mget_appW_e])))) (okB_cons (okB_own (E := strE) (ty := 9) (l' := L90000) rfl (show mget _ 90000 = _ from (by first | rfl | (simp (disch := first | decide | assumption) only [mpushs_nil, mpushs_cons, mget_hd, mget_tl, mget_appW_o, mget_appW_n, mget_appW_e])))) okB_nil')))
  · exact fun hg => ret1 (hR _ (Option.some.inj hg).symm) (fz_sc _ _)
theorem L11_0_ok (n : Nat) (a0 : List TConfigGroup) (c2 : Int) (c12 : Int) {t : ρ11} (R : AV → Mem → Prop) (hR : ∀ r : ρ11, t = r → ∀ u m, Ans ((intA r)) u m → R u m) (k : Nat) (x : Int × List ByteArray) (hx : iterO (fun y : Int × List ByteArray => S11_0 n a0 c2 c12 y.1 y.2) k x = some t) {s : St} (hw : Weak KK 82 0 s (h11_0 (lstA TConfigGroup.E a0) c2 (ownV strE 90000 x.2) (lstA TConfigGroup.E a0) c12 x.1 [(90000, ownB strE 9 x.2)])) : Tri Try.prog KK 82 0 (.loop c11_0) s (q11_0 R ) :=
  L11_0 R  (σ := Nat × (Int × List ByteArray)) (fun z => iterO (fun y : Int × List ByteArray => S11_0 n a0 c2 c12 y.1 y.2) z.1 z.2 = some t) (fun z => (lstA TConfigGroup.E a0)) (fun z => c2) (fun z => (ownV strE 90000 z.2.2)) (fun z => (lstA TConfigGroup.E a0)) (fun z => c12) (fun z => z.2.1) (fun z => [(90000, ownB strE 9 z.2.2)]) (fun z => z.1) (by
    rintro ⟨k, y⟩ h
    cases k with
    | zero => exact (iterO_zero h).elim
    | succ k =>
      obtain ⟨u, h1, h2, h3⟩ := iterO_elim h
      exact B11_0_ok n a0 c2 c12 y.1 y.2 R  _ (fun r e => hR r (h3 _ e).symm)  (fun y' e s' hw => ⟨(k, y'), h2 _ e, Nat.lt_succ_self k, hw⟩) h1) (k, x) hx hw
theorem g11_ok (n : Nat) (a0 : List TConfigGroup) {t : ρ11} (R : AV → Mem → Prop) (hR : ∀ r : ρ11, t = r → ∀ u m, Ans ((intA r)) u m → R u m) : g11 n a0 = some t → F11 (lstA TConfigGroup.E a0) R := by
  unfold g11 F11
  refine imp (opP_of (show _ = some ((intA (a0.length : Int)), []) from rfl)) ?_
  refine imp ex_i64_b ?_
  refine cond_b (fun _ => ?_) (fun _ => ?_)
  · exact fun hg => ret1 (hR _ (Option.some.inj hg).symm) (fz_sc _ _)
  · refine imp (opP_of (show _ = some ((intA (a0.length : Int)), []) from rfl)) ?_
    refine imp ex_i64_b ?_
    exact fun hg => L11_0_ok n a0 (0) (a0.length : Int) R  hR n _ hg (weak_mem [(90000, 89500)] rfl rfl rfl (okW_cons (ent_lst (E := TConfigGroup.E) _ false) (okW_cons (.inl (leV_refl _)) (okW_cons ent_nils_own (okW_cons (ent_lst (E := TConfigGroup.E) _ false) (okW_cons (.inl (leV_refl _)) (okW_cons (.inl (leV_refl _)) okW_nil)))))) (okB_cons okB_nil okB_nil'))
theorem sg11 {n : Nat} {a0 : List TConfigGroup} {t : ρ11} (h : g11 n a0 = some t) : Says Try.prog KK.gl 11 [(lstA TConfigGroup.E a0)] ((intA t)) :=
  says_of_own (by first | rfl | simp [cleans, clean, encs_clean, En.cln]) (by first | rfl | simp [cleans, clean, encs_clean, En.cln]) (F11_own (lstA TConfigGroup.E a0) _ (g11_ok n a0 (Ans ((intA t))) (fun r e u m h => by rw [e]; exact h) h))
/- skyway/config.index$1 -/
theorem g30_ok (n : Nat) (a0 : TConfigGroup) (a1_0 : ByteArray) {t : ρ30} (R : AV → Mem → Prop) (hR : ∀ r : ρ30, t = r → ∀ u m, Ans ((boolA r)) u m → R u m) : g30 n a0 a1_0 = some t → F30 a0.Position (lstA strE a0.Sectors) (AV.ept [(strA a1_0)] 0) R := by
  unfold g30 F30
  refine imp (chk_of rfl) ?_
  refine imp (opP_of (show _ = some ((strA a1_0), []) from rfl)) ?_
  refine imp exStr_b ?_
  exact fun hg => ret1 (hR _ (Option.some.inj hg).symm) (fz_sc _ _)
theorem sg30 {n : Nat} {a0 : TConfigGroup} {a1_0 : ByteArray} {t : ρ30} (h : g30 n a0 a1_0 = some t) : Says Try.prog KK.gl 30 [(AV.agg [(strA a0.Position), (lstA strE a0.Sectors)]), (AV.ept [(strA a1_0)] 0)] ((boolA t)) :=
  says_of_own (by first | rfl | simp [cleans, clean, encs_clean, En.cln]) (by first | rfl | simp [cleans, clean, encs_clean, En.cln]) (F30_own a0.Position (lstA strE a0.Sectors) (AV.ept [(strA a1_0)] 0) _ (g30_ok n a0 a1_0 (Ans ((boolA t))) (fun r e u m h => by rw [e]; exact h) h))
/- slices.IndexFunc[[]skyway/api.ConfigGroup,skyway/api.ConfigGroup] -/
theorem B13_0_ok (n : Nat) (a0 : List TConfigGroup) (a1_0_0 : ByteArray) (c4 : Int) (c7 : Int) (v8 : Int) {t : (Int) ⊕ ρ13} (R : AV → Mem → Prop) (N0 : St → Prop) (hR : ∀ r : ρ13, t = (.inr r) → ∀ u m, Ans ((intA r)) u m → R u m) (hN0 : ∀ y : Int, t = (.inl y) → ∀ s' : St, Weak KK 19 0 s' (h13_0 (lstA TConfigGroup.E a0) (AV.fn 30 [(AV.ept [(strA a1_0_0)] 0)]) c4 c7 y []) → N0 s') : S13_0 n a0 a1_0_0 c4 c7 v8 = some t → B13_0 (lstA TConfigGroup.E a0) (AV.fn 30 [(AV.ept [(strA a1_0_0)] 0)]) c4 c7 v8 [] R N0 := by
  unfold S13_0 B13_0
  refine cond_b (fun _ => ?_) (fun _ => ?_)
  · refine bind_b fun x15 h15 => ?_
    refine imp (opP_of (show _ = some ((AV.ept [(strA x15.Position), (lstA strE x15.Sectors)] 0), []) from (idx_lst (E := TConfigGroup.E) rfl h15))) ?_
    refine imp (opP_of (show _ = some ((AV.agg [(strA x15.Position), (lstA strE x15.Sectors)]), []) from rfl)) ?_
    refine imp exA2_b ?_
    refine imp exStr_b ?_
    refine bind_b fun x16 h16 => ?_
    refine imp fnArgs_b ?_
    refine imp (cond_ff rfl) ?_
    refine imp (callW_says (sg30 h16)) ?_
    refine imp exB_b ?_
    refine cond_b (fun _ => ?_) (fun _ => ?_)
    · exact fun hg => ret1 (hR _ (Option.some.inj hg).symm) (fz_sc _ _)
    · exact fun hg => hN0 _ (Option.some.inj hg).symm _ (weak_mem [] rfl rfl rfl (okW_cons (ent_lst (E := TConfigGroup.E) _ false) (okW_cons (ent_clean (leV_refl _) (by simp [clean, cleans, encs_clean])) (okW_cons (.inl (leV_refl _)) (okW_cons (.inl (leV_refl _)) (okW_cons (.inl (leV_refl _)) okW_nil))))) okB_nil')
  · exact fun hg => ret1 (hR _ (Option.some.inj hg).symm) (fz_sc _ _)
theorem L13_0_ok (n : Nat) (a0 : List TConfigGroup) (a1_0_0 : ByteArray) (c4 : Int) (c7 : Int) {t : ρ13} (R : AV → Mem → Prop) (hR : ∀ r : ρ13, t = r → ∀ u m, Ans ((intA r)) u m → R u m) (k : Nat) (x : Int) (hx : iterO (fun y : Int => S13_0 n a0 a1_0_0 c4 c7 y) k x = some t) {s : St} (hw : Weak KK 19 0 s (h13_0 (lstA TConfigGroup.E a0) (AV.fn 30 [(AV.ept [(strA a1_0_0)] 0)]) c4 c7 x [])) : Tri Try.prog KK 19 0 (.loop c13_0) s (q13_0 R ) :=
  L13_0 R  (σ := Nat × (Int)) (fun z => iterO (fun y : Int => S13_0 n a0 a1_0_0 c4 c7 y) z.1 z.2 = some t) (fun z => (lstA TConfigGroup.E a0)) (fun z => (AV.fn 30 [(AV.ept [(strA a1_0_0)] 0)])) (fun z => c4) (fun z => c7) (fun z => z.2) (fun z => []) (fun z => z.1) (by
    rintro ⟨k, y⟩ h
    cases k with
    | zero => exact (iterO_zero h).elim
    | succ k =>
      obtain ⟨u, h1, h2, h3⟩ := iterO_elim h
      exact B13_0_ok n a0 a1_0_0 c4 c7 y R  _ (fun r e => hR r (h3 _ e).symm)  (fun y' e s' hw => ⟨(k, y'), h2 _ e, Nat.lt_succ_self k, hw⟩) h1) (k, x) hx hw
theorem g13_ok (n : Nat) (a0 : List TConfigGroup) (a1_0_0 : ByteArray) {t : ρ13} (R : AV → Mem → Prop) (hR : ∀ r : ρ13, t = r → ∀ u m, Ans ((intA r)) u m → R u m) : g13 n a0 a1_0_0 = some t → F13 (lstA TConfigGroup.E a0) (AV.fn 30 [(AV.ept [(strA a1_0_0)] 0)]) R := by
  unfold g13 F13
  refine imp (opP_of (show _ = some ((intA (a0.length : Int)), []) from rfl)) ?_
  refine imp ex_i64_b ?_
  exact fun hg => L13_0_ok n a0 a1_0_0 (0) (a0.length : Int) R  hR n _ hg (weak_mem [] rfl rfl rfl (okW_cons (ent_lst (E := TConfigGroup.E) _ false) (okW_cons (ent_clean (leV_refl _) (by simp [clean, cleans, encs_clean])) (okW_cons (.inl (leV_refl _)) (okW_cons (.inl (leV_refl _)) (okW_cons (.inl (leV_refl _)) okW_nil))))) okB_nil')
theorem sg13 {n : Nat} {a0 : List TConfigGroup} {a1_0_0 : ByteArray} {t : ρ13} (h : g13 n a0 a1_0_0 = some t) : Says Try.prog KK.gl 13 [(lstA TConfigGroup.E a0), (AV.fn 30 [(AV.ept [(strA a1_0_0)] 0)])] ((intA t)) :=
  says_of_own (by first | rfl | simp [cleans, clean, encs_clean, En.cln]) (by first | rfl | simp [cleans, clean, encs_clean, En.cln]) (F13_own (lstA TConfigGroup.E a0) (AV.fn 30 [(AV.ept [(strA a1_0_0)] 0)]) _ (g13_ok n a0 a1_0_0 (Ans ((intA t))) (fun r e u m h => by rw [e]; exact h) h))
/- skyway/config.index -/
theorem g19_ok (n : Nat) (a0 : List TConfigGroup) (a1 : ByteArray) {t : ρ19} (R : AV → Mem → Prop) (hR : ∀ r : ρ19, t = r → ∀ u m, Ans ((intA r)) u m → R u m) : g19 n a0 a1 = some t → F19 (lstA TConfigGroup.E a0) a1 R := by
  unfold g19 F19
  refine bind_b fun x17 h17 => ?_
  refine imp (callQ_pure (pure_snapN (snL_cons (sn_lst (E := TConfigGroup.E) _ _ false) (snL_cons (sn_fn _ _ (snL_cons (sn_ptr _ (ty := 9) (us := [(strA a1)]) (by first | rfl | (simp (disch := first | decide | assumption) only [mpushs_nil, mpushs_cons, mget_hd, mget_tl, mget_appW_o, mget_appW_n, mget_appW_e])) (snL_cons (sn_sc _ _) snL_nil)) snL_nil)) snL_nil)) (sg13 h17) rfl)) ?_
  refine imp ex_i64_b ?_
  exact fun hg => ret1 (hR _ (Option.some.inj hg).symm) (fz_sc _ _)
theorem sg19 {n : Nat} {a0 : List TConfigGroup} {a1 : ByteArray} {t : ρ19} (h : g19 n a0 a1 = some t) : Says Try.prog KK.gl 19 [(lstA TConfigGroup.E a0), (strA a1)] ((intA t)) :=
  says_of_own (by first | rfl | simp [cleans, clean, encs_clean, En.cln]) (by first | rfl | simp [cleans, clean, encs_clean, En.cln]) (F19_own (lstA TConfigGroup.E a0) a1 _ (g19_ok n a0 a1 (Ans ((intA t))) (fun r e u m h => by rw [e]; exact h) h))
/- skyway/config.Names -/
theorem B7_0_ok (n : Nat) (c3 : Int) (a0 : List TConfigGroup) (c14 : Int) (v15 : Int) (L90000 : List ByteArray) {t : (Int × List ByteArray) ⊕ ρ7} (R : AV → Mem → Prop) (N0 : St → Prop) (hR : ∀ r : ρ7, t = (.inr r) → ∀ u m, Ans ((AV.tup [(lstA strE r.1), (intA r.2)])) u m → R u m) (hN0 : ∀ y : Int × List ByteArray, t = (.inl y) → ∀ s' : St, Weak KK 27 0 s' (h7_0 AV.nils c3 (ownV strE 90000 y.2) (lstA TConfigGroup.E a0) c14 y.1 [(90000, ownB strE 9 y.2)]) → N0 s') : S7_0 n c3 a0 c14 v15 L90000 = some t → B7_0 AV.nils c3 (ownV strE 90000 L90000) (lstA TConfigGroup.E a0) c14 v15 [(90000, ownB strE 9 L90000)] R N0 := by
  unfold S7_0 B7_0
  refine cond_b (fun _ => ?_) (fun _ => ?_)
  · refine bind_b fun x19 h19 => ?_
    refine imp (opP_of (show _ = some ((AV.ept [(strA x19.Position), (lstA strE x19.Sectors)] 0), []) from (idx_lst (E := TConfigGroup.E) rfl h19))) ?_
    refine imp (opP_of (show _ = some ((AV.agg [(strA x19.Position), (lstA strE x19.Sectors)]), []) from rfl)) ?_
    refine imp exA2_b ?_
    refine imp exStr_b ?_
    refine imp (chk_of rfl) ?_
    refine bind_b fun x20 h20 => ?_
    have neh20 := neO_some h20
    refine bind_b fun x21 h21 => ?_
    refine imp (opN_of (show _ = some ((ownV strE 100008 (L90000 ++ x19.Sectors)), (appW strE 100008 90000 9 L90000 x19.Sectors)) from (app_own (E := strE) (l' := L90000) (xs := x19.Sectors) rfl rfl (cellsOf_lst (E := strE) rfl x19.Sectors false) (by first | assumption | simp) rfl (fun hne => Eq.trans (by first | rfl | (simp (disch := first | decide | assumption) only [mpushs_nil, mpushs_cons, mget_hd, mget_tl, mget_appW_o, mget_appW_n, mget_appW_e])) (ownB_ne hne)) h21))) ?_
    exact fun hg => hN0 _ (Option.some.inj hg).symm _ (weak_mem [(90000, 100008)] rfl rfl rfl (okW_cons (.inl (leV_refl _)) (okW_cons (.inl (leV_refl _)) (okW_cons (ent_own (E := strE) (id := 100008) (l' := (L90000 ++ x19.Sectors)) rfl rfl) (okW_cons (ent_lst (E := TConfigGroup.E) _ false) (okW_cons (.inl (leV_refl _)) (okW_cons (.inl (leV_refl _)) okW_nil)))))) (okB_cons (okB_own (E := strE) (ty := 9) (l' := (L90000 ++ x19.Sectors)) rfl (show mget _ 100008 = _ from (by first | rfl | (simp (disch := first | decide | assumption) only [mpushs_nil, mpushs_cons, mget_hd, mget_tl, mget_appW_o, mget_appW_n, mget_appW_e])))) okB_nil'))
  · refine bind_b fun x22 h22 => ?_
    have lh22 : (sortS L90000).length = L90000.length := sortS_len _
    refine imp (callW_sortStr ssort18 snone18 splain18 rfl (by first | rfl | (simp (disch := first | decide | assumption) only [mpushs_nil, mpushs_cons, mget_hd, mget_tl, mget_appW_o, mget_appW_n, mget_appW_e])) (lenO_some h22)) ?_
    refine imp exT0_b ?_
    exact fun hg => retN rfl (hR _ (Option.some.inj hg).symm) (fzL_cons (fz_own (E := strE) (ty := 9) (l' := (sortS L90000)) _ (by first | rfl | omega | (simp; done) | (simp; omega)) (by first | rfl | (simp (disch := first | decide | assumption) only [mpushs_nil, mpushs_cons, mget_hd, mget_tl, mget_appW_o, mget_appW_n, mget_appW_e]))) (fzL_cons (fz_sc _ _) fzL_nil))
theorem L7_0_ok (n : Nat) (c3 : Int) (a0 : List TConfigGroup) (c14 : Int) {t : ρ7} (R : AV → Mem → Prop) (hR : ∀ r : ρ7, t = r → ∀ u m, Ans ((AV.tup [(lstA strE r.1), (intA r.2)])) u m → R u m) (k : Nat) (x : Int × List ByteArray) (hx : iterO (fun y : Int × List ByteArray => S7_0 n c3 a0 c14 y.1 y.2) k x = some t) {s : St} (hw : Weak KK 27 0 s (h7_0 AV.nils c3 (ownV strE 90000 x.2) (lstA TConfigGroup.E a0) c14 x.1 [(90000, ownB strE 9 x.2)])) : Tri Try.prog KK 27 0 (.loop c7_0) s (q7_0 R ) :=
  L7_0 R  (σ := Nat × (Int × List ByteArray)) (fun z => iterO (fun y : Int × List ByteArray => S7_0 n c3 a0 c14 y.1 y.2) z.1 z.2 = some t) (fun z => AV.nils) (fun z => c3) (fun z => (ownV strE 90000 z.2.2)) (fun z => (lstA TConfigGroup.E a0)) (fun z => c14) (fun z => z.2.1) (fun z => [(90000, ownB strE 9 z.2.2)]) (fun z => z.1) (by
    rintro ⟨k, y⟩ h
    cases k with
    | zero => exact (iterO_zero h).elim
    | succ k =>
      obtain ⟨u, h1, h2, h3⟩ := iterO_elim h
      exact B7_0_ok n c3 a0 c14 y.1 y.2 R  _ (fun r e => hR r (h3 _ e).symm)  (fun y' e s' hw => ⟨(k, y'), h2 _ e, Nat.lt_succ_self k, hw⟩) h1) (k, x) hx hw
theorem g7_ok (n : Nat) (a0 : List TConfigGroup) {t : ρ7} (R : AV → Mem → Prop) (hR : ∀ r : ρ7, t = r → ∀ u m, Ans ((AV.tup [(lstA strE r.1), (intA r.2)])) u m → R u m) : g7 n a0 = some t → F7 (lstA TConfigGroup.E a0) R := by
  unfold g7 F7
  refine bind_b fun x18 h18 => ?_
  refine imp (callQ_says (sg11 h18)) ?_
  refine imp ex_i64_b ?_
  refine cond_b (fun _ => ?_) (fun _ => ?_)
  · exact fun hg => retN rfl (hR _ (Option.some.inj hg).symm) (fzL_cons (fz_nils (E := strE) _) (fzL_cons (fz_sc _ _) fzL_nil))
  · refine imp (opP_of (show _ = some ((intA (a0.length : Int)), []) from rfl)) ?_
    refine imp ex_i64_b ?_
    exact fun hg => L7_0_ok n (0) a0 (a0.length : Int) R  hR n _ hg (weak_mem [(90000, 89500)] rfl rfl rfl (okW_cons (.inl (leV_refl _)) (okW_cons (.inl (leV_refl _)) (okW_cons ent_nils_own (okW_cons (ent_lst (E := TConfigGroup.E) _ false) (okW_cons (.inl (leV_refl _)) (okW_cons (.inl (leV_refl _)) okW_nil)))))) (okB_cons okB_nil okB_nil'))
theorem sg7 {n : Nat} {a0 : List TConfigGroup} {t : ρ7} (h : g7 n a0 = some t) : Says Try.prog KK.gl 7 [(lstA TConfigGroup.E a0)] ((AV.tup [(lstA strE t.1), (intA t.2)])) :=
  says_of_own (by first | rfl | simp [cleans, clean, encs_clean, En.cln]) (by first | rfl | simp [cleans, clean, encs_clean, En.cln]) (F7_own (lstA TConfigGroup.E a0) _ (g7_ok n a0 (Ans ((AV.tup [(lstA strE t.1), (intA t.2)]))) (fun r e u m h => by rw [e]; exact h) h))
/- slices.Equal[[]string,string] -/
theorem B10_0_ok (n : Nat) (a0 : List ByteArray) (a1 : List ByteArray) (c4 : Bool) (c12 : Int) (v13 : Int) {t : (Int) ⊕ ρ10} (R : AV → Mem → Prop) (N0 : St → Prop) (hR : ∀ r : ρ10, t = (.inr r) → ∀ u m, Ans ((boolA r)) u m → R u m) (hN0 : ∀ y : Int, t = (.inl y) → ∀ s' : St, Weak KK 26 0 s' (h10_0 (lstA strE a0) (lstA strE a1) c4 c12 y []) → N0 s') : S10_0 n a0 a1 c4 c12 v13 = some t → B10_0 (lstA strE a0) (lstA strE a1) c4 c12 v13 [] R N0 := by
  unfold S10_0 B10_0
  refine cond_b (fun _ => ?_) (fun _ => ?_)
  · refine bind_b fun x29 h29 => ?_
    refine imp (opP_of (show _ = some ((AV.ept [(strA x29)] 0), []) from (idx_lst (E := strE) rfl h29))) ?_
    refine imp (opP_of (show _ = some ((strA x29), []) from rfl)) ?_
    refine imp exStr_b ?_
    refine bind_b fun x30 h30 => ?_
    refine imp (opP_of (show _ = some ((AV.ept [(strA x30)] 0), []) from (idx_lst (E := strE) rfl h30))) ?_
    refine imp (opP_of (show _ = some ((strA x30), []) from rfl)) ?_
    refine imp exStr_b ?_
    refine cond_b (fun _ => ?_) (fun _ => ?_)
    · exact fun hg => ret1 (hR _ (Option.some.inj hg).symm) (fz_sc _ _)
    · exact fun hg => hN0 _ (Option.some.inj hg).symm _ (weak_mem [] rfl rfl rfl (okW_cons (ent_lst (E := strE) _ false) (okW_cons (ent_lst (E := strE) _ false) (okW_cons (.inl (leV_refl _)) (okW_cons (.inl (leV_refl _)) (okW_cons (.inl (leV_refl _)) okW_nil))))) okB_nil')
  · exact fun hg => ret1 (hR _ (Option.some.inj hg).symm) (fz_sc _ _)
theorem L10_0_ok (n : Nat) (a0 : List ByteArray) (a1 : List ByteArray) (c4 : Bool) (c12 : Int) {t : ρ10} (R : AV → Mem → Prop) (hR : ∀ r : ρ10, t = r → ∀ u m, Ans ((boolA r)) u m → R u m) (k : Nat) (x : Int) (hx : iterO (fun y : Int => S10_0 n a0 a1 c4 c12 y) k x = some t) {s : St} (hw : Weak KK 26 0 s (h10_0 (lstA strE a0) (lstA strE a1) c4 c12 x [])) : Tri Try.prog KK 26 0 (.loop c10_0) s (q10_0 R ) :=
  L10_0 R  (σ := Nat × (Int)) (fun z => iterO (fun y : Int => S10_0 n a0 a1 c4 c12 y) z.1 z.2 = some t) (fun z => (lstA strE a0)) (fun z => (lstA strE a1)) (fun z => c4) (fun z => c12) (fun z => z.2) (fun z => []) (fun z => z.1) (by
    rintro ⟨k, y⟩ h
    cases k with
    | zero => exact (iterO_zero h).elim
    | succ k =>
      obtain ⟨u, h1, h2, h3⟩ := iterO_elim h
      exact B10_0_ok n a0 a1 c4 c12 y R  _ (fun r e => hR r (h3 _ e).symm)  (fun y' e s' hw => ⟨(k, y'), h2 _ e, Nat.lt_succ_self k, hw⟩) h1) (k, x) hx hw
theorem g10_ok (n : Nat) (a0 : List ByteArray) (a1 : List ByteArray) {t : ρ10} (R : AV → Mem → Prop) (hR : ∀ r : ρ10, t = r → ∀ u m, Ans ((boolA r)) u m → R u m) : g10 n a0 a1 = some t → F10 (lstA strE a0) (lstA strE a1) R := by
  unfold g10 F10
  refine imp (opP_of (show _ = some ((intA (a0.length : Int)), []) from rfl)) ?_
  refine imp ex_i64_b ?_
  refine imp (opP_of (show _ = some ((intA (a1.length : Int)), []) from rfl)) ?_
  refine imp ex_i64_b ?_
  refine cond_b (fun _ => ?_) (fun _ => ?_)
  · exact fun hg => ret1 (hR _ (Option.some.inj hg).symm) (fz_sc _ _)
  · refine imp (opP_of (show _ = some ((intA (a0.length : Int)), []) from rfl)) ?_
    refine imp ex_i64_b ?_
    exact fun hg => L10_0_ok n a0 a1 false (a0.length : Int) R  hR n _ hg (weak_mem [] rfl rfl rfl (okW_cons (ent_lst (E := strE) _ false) (okW_cons (ent_lst (E := strE) _ false) (okW_cons (.inl (leV_refl _)) (okW_cons (.inl (leV_refl _)) (okW_cons (.inl (leV_refl _)) okW_nil))))) okB_nil')
theorem sg10 {n : Nat} {a0 : List ByteArray} {a1 : List ByteArray} {t : ρ10} (h : g10 n a0 a1 = some t) : Says Try.prog KK.gl 10 [(lstA strE a0), (lstA strE a1)] ((boolA t)) :=
  says_of_own (by first | rfl | simp [cleans, clean, encs_clean, En.cln]) (by first | rfl | simp [cleans, clean, encs_clean, En.cln]) (F10_own (lstA strE a0) (lstA strE a1) _ (g10_ok n a0 a1 (Ans ((boolA t))) (fun r e u m h => by rw [e]; exact h) h))
end Go.Proofs.Ythjcdlbkdobmiaa
