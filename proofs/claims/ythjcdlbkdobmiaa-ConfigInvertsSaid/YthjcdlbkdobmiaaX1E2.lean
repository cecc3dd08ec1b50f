/- Plain functional programs out of the program's functions, with proofs that the functions compute them; printed by wip/Ext.lean.txt. -/
import Derived.Test.YthjcdlbkdobmiaaX1E1
import Derived.Test.YthjcdlbkdobmiaaCcH
import Derived.Test.YthjcdlbkdobmiaaCsH
set_option linter.unusedVariables false
set_option linter.unusedSimpArgs false
set_option maxRecDepth 100000
set_option maxHeartbeats 4000000
namespace Go.Proofs.Ythjcdlbkdobmiaa
/- skyway/skywaykeep3.ConfigKeeps -/
theorem B3_0_ok (n : Nat) (c8 : Bool) (c9 : List ByteArray) (c10 : Int) (c13 : Int) (c44 : List (List TConfigGroup)) (c45 : Int) (v46 : Int) {t : (Int) ⊕ ρ3} (R : AV → Mem → Prop) (N0 : St → Prop) (hR : ∀ r : ρ3, t = (.inr r) → ∀ u m, Ans ((boolA r)) u m → R u m) (hN0 : ∀ y : Int, t = (.inl y) → ∀ s' : St, Weak KK 84 0 s' (h3_0 c8 (lstA strE c9) c10 c13 (lstA (lstE TConfigGroup.E) c44) c45 y []) → N0 s') : S3_0 n c8 c9 c10 c13 c44 c45 v46 = some t → B3_0 c8 (lstA strE c9) c10 c13 (lstA (lstE TConfigGroup.E) c44) c45 v46 [] R N0 := by
  unfold S3_0 B3_0
  refine cond_b (fun _ => ?_) (fun _ => ?_)
  · refine bind_b fun x27 h27 => ?_
    refine imp (opP_of (show _ = some ((AV.ept [(lstA TConfigGroup.E x27)] 0), []) from (idx_lst (E := (lstE TConfigGroup.E)) rfl h27))) ?_
    refine imp (opP_of (show _ = some ((lstA TConfigGroup.E x27), []) from rfl)) ?_
    refine cond_b (fun _ => ?_) (fun _ => ?_)
    · refine cond_b (fun _ => ?_) (fun _ => ?_)
      · exact fun hg => hN0 _ (Option.some.inj hg).symm _ (weak_mem [] rfl rfl rfl (okW_cons (.inl (leV_refl _)) (okW_cons (ent_lst (E := strE) _ false) (okW_cons (.inl (leV_refl _)) (okW_cons (.inl (leV_refl _)) (okW_cons (ent_lst (E := (lstE TConfigGroup.E)) _ false) (okW_cons (.inl (leV_refl _)) (okW_cons (.inl (leV_refl _)) okW_nil))))))) okB_nil')
      · refine cond_b (fun _ => ?_) (fun _ => ?_)
        · refine cond_b (fun _ => ?_) (fun _ => ?_)
          · exact fun hg => hN0 _ (Option.some.inj hg).symm _ (weak_mem [] rfl rfl rfl (okW_cons (.inl (leV_refl _)) (okW_cons (ent_lst (E := strE) _ false) (okW_cons (.inl (leV_refl _)) (okW_cons (.inl (leV_refl _)) (okW_cons (ent_lst (E := (lstE TConfigGroup.E)) _ false) (okW_cons (.inl (leV_refl _)) (okW_cons (.inl (leV_refl _)) okW_nil))))))) okB_nil')
          · refine bind_b fun x28 h28 => ?_
            refine imp (callQ_says (sg7 h28)) ?_
            refine imp exT2_b ?_
            refine imp ex_i64_b ?_
            refine cond_b (fun _ => ?_) (fun _ => ?_)
            · exact fun hg => ret1 (hR _ (Option.some.inj hg).symm) (fz_sc _ _)
            · refine bind_b fun x31 h31 => ?_
              refine imp (callQ_says (sg10 h31)) ?_
              refine imp exB_b ?_
              refine cond_b (fun _ => ?_) (fun _ => ?_)
              · exact fun hg => ret1 (hR _ (Option.some.inj hg).symm) (fz_sc _ _)
              · refine bind_b fun x32 h32 => ?_
                refine imp (callQ_says (sg11 h32)) ?_
                refine imp ex_i64_b ?_
                refine cond_b (fun _ => ?_) (fun _ => ?_)
                · exact fun hg => ret1 (hR _ (Option.some.inj hg).symm) (fz_sc _ _)
                · exact fun hg => hN0 _ (Option.some.inj hg).symm _ (weak_mem [] rfl rfl rfl (okW_cons (.inl (leV_refl _)) (okW_cons (ent_lst (E := strE) _ false) (okW_cons (.inl (leV_refl _)) (okW_cons (.inl (leV_refl _)) (okW_cons (ent_lst (E := (lstE TConfigGroup.E)) _ false) (okW_cons (.inl (leV_refl _)) (okW_cons (.inl (leV_refl _)) okW_nil))))))) okB_nil')
        · refine bind_b fun x33 h33 => ?_
          refine imp (callQ_says (sg7 h33)) ?_
          refine imp exT2_b ?_
          refine imp ex_i64_b ?_
          refine cond_b (fun _ => ?_) (fun _ => ?_)
          · exact fun hg => ret1 (hR _ (Option.some.inj hg).symm) (fz_sc _ _)
          · refine bind_b fun x34 h34 => ?_
            refine imp (callQ_says (sg10 h34)) ?_
            refine imp exB_b ?_
            refine cond_b (fun _ => ?_) (fun _ => ?_)
            · exact fun hg => ret1 (hR _ (Option.some.inj hg).symm) (fz_sc _ _)
            · refine bind_b fun x35 h35 => ?_
              refine imp (callQ_says (sg11 h35)) ?_
              refine imp ex_i64_b ?_
              refine cond_b (fun _ => ?_) (fun _ => ?_)
              · exact fun hg => ret1 (hR _ (Option.some.inj hg).symm) (fz_sc _ _)
              · exact fun hg => hN0 _ (Option.some.inj hg).symm _ (weak_mem [] rfl rfl rfl (okW_cons (.inl (leV_refl _)) (okW_cons (ent_lst (E := strE) _ false) (okW_cons (.inl (leV_refl _)) (okW_cons (.inl (leV_refl _)) (okW_cons (ent_lst (E := (lstE TConfigGroup.E)) _ false) (okW_cons (.inl (leV_refl _)) (okW_cons (.inl (leV_refl _)) okW_nil))))))) okB_nil')
    · refine cond_b (fun _ => ?_) (fun _ => ?_)
      · refine cond_b (fun _ => ?_) (fun _ => ?_)
        · exact fun hg => hN0 _ (Option.some.inj hg).symm _ (weak_mem [] rfl rfl rfl (okW_cons (.inl (leV_refl _)) (okW_cons (ent_lst (E := strE) _ false) (okW_cons (.inl (leV_refl _)) (okW_cons (.inl (leV_refl _)) (okW_cons (ent_lst (E := (lstE TConfigGroup.E)) _ false) (okW_cons (.inl (leV_refl _)) (okW_cons (.inl (leV_refl _)) okW_nil))))))) okB_nil')
        · refine bind_b fun x36 h36 => ?_
          refine imp (callQ_says (sg7 h36)) ?_
          refine imp exT2_b ?_
          refine imp ex_i64_b ?_
          refine cond_b (fun _ => ?_) (fun _ => ?_)
          · exact fun hg => ret1 (hR _ (Option.some.inj hg).symm) (fz_sc _ _)
          · refine bind_b fun x37 h37 => ?_
            refine imp (callQ_says (sg10 h37)) ?_
            refine imp exB_b ?_
            refine cond_b (fun _ => ?_) (fun _ => ?_)
            · exact fun hg => ret1 (hR _ (Option.some.inj hg).symm) (fz_sc _ _)
            · refine bind_b fun x38 h38 => ?_
              refine imp (callQ_says (sg11 h38)) ?_
              refine imp ex_i64_b ?_
              refine cond_b (fun _ => ?_) (fun _ => ?_)
              · exact fun hg => ret1 (hR _ (Option.some.inj hg).symm) (fz_sc _ _)
              · exact fun hg => hN0 _ (Option.some.inj hg).symm _ (weak_mem [] rfl rfl rfl (okW_cons (.inl (leV_refl _)) (okW_cons (ent_lst (E := strE) _ false) (okW_cons (.inl (leV_refl _)) (okW_cons (.inl (leV_refl _)) (okW_cons (ent_lst (E := (lstE TConfigGroup.E)) _ false) (okW_cons (.inl (leV_refl _)) (okW_cons (.inl (leV_refl _)) okW_nil))))))) okB_nil')
      · refine bind_b fun x39 h39 => ?_
        refine imp (callQ_says (sg7 h39)) ?_
        refine imp exT2_b ?_
        refine imp ex_i64_b ?_
        refine cond_b (fun _ => ?_) (fun _ => ?_)
        · exact fun hg => ret1 (hR _ (Option.some.inj hg).symm) (fz_sc _ _)
        · refine bind_b fun x40 h40 => ?_
          refine imp (callQ_says (sg10 h40)) ?_
          refine imp exB_b ?_
          refine cond_b (fun _ => ?_) (fun _ => ?_)
          · exact fun hg => ret1 (hR _ (Option.some.inj hg).symm) (fz_sc _ _)
          · refine bind_b fun x41 h41 => ?_
            refine imp (callQ_says (sg11 h41)) ?_
            refine imp ex_i64_b ?_
            refine cond_b (fun _ => ?_) (fun _ => ?_)
            · exact fun hg => ret1 (hR _ (Option.some.inj hg).symm) (fz_sc _ _)
            · exact fun hg => hN0 _ (Option.some.inj hg).symm _ (weak_mem [] rfl rfl rfl (okW_cons (.inl (leV_refl _)) (okW_cons (ent_lst (E := strE) _ false) (okW_cons (.inl (leV_refl _)) (okW_cons (.inl (leV_refl _)) (okW_cons (ent_lst (E := (lstE TConfigGroup.E)) _ false) (okW_cons (.inl (leV_refl _)) (okW_cons (.inl (leV_refl _)) okW_nil))))))) okB_nil')
  · exact fun hg => ret1 (hR _ (Option.some.inj hg).symm) (fz_sc _ _)
theorem L3_0_ok (n : Nat) (c8 : Bool) (c9 : List ByteArray) (c10 : Int) (c13 : Int) (c44 : List (List TConfigGroup)) (c45 : Int) {t : ρ3} (R : AV → Mem → Prop) (hR : ∀ r : ρ3, t = r → ∀ u m, Ans ((boolA r)) u m → R u m) (k : Nat) (x : Int) (hx : iterO (fun y : Int => S3_0 n c8 c9 c10 c13 c44 c45 y) k x = some t) {s : St} (hw : Weak KK 84 0 s (h3_0 c8 (lstA strE c9) c10 c13 (lstA (lstE TConfigGroup.E) c44) c45 x [])) : Tri Try.prog KK 84 0 (.loop c3_0) s (q3_0 R ) :=
  L3_0 R  (σ := Nat × (Int)) (fun z => iterO (fun y : Int => S3_0 n c8 c9 c10 c13 c44 c45 y) z.1 z.2 = some t) (fun z => c8) (fun z => (lstA strE c9)) (fun z => c10) (fun z => c13) (fun z => (lstA (lstE TConfigGroup.E) c44)) (fun z => c45) (fun z => z.2) (fun z => []) (fun z => z.1) (by
    rintro ⟨k, y⟩ h
    cases k with
    | zero => exact (iterO_zero h).elim
    | succ k =>
      obtain ⟨u, h1, h2, h3⟩ := iterO_elim h
      exact B3_0_ok n c8 c9 c10 c13 c44 c45 y R  _ (fun r e => hR r (h3 _ e).symm)  (fun y' e s' hw => ⟨(k, y'), h2 _ e, Nat.lt_succ_self k, hw⟩) h1) (k, x) hx hw
theorem g3_ok (n : Nat) (a0 : List TConfigGroup) (a1 : ByteArray) (a2 : ByteArray) (a3 : List ByteArray) {t : ρ3} (R : AV → Mem → Prop) (hR : ∀ r : ρ3, t = r → ∀ u m, Ans ((boolA r)) u m → R u m) : g3 n a0 a1 a2 a3 = some t → F3 (lstA TConfigGroup.E a0) a1 a2 (lstA strE a3) R := by
  unfold g3 F3
  refine bind_b fun x23 h23 => ?_
  refine imp (callQ_says (sg6 h23)) ?_
  refine imp exB_b ?_
  refine cond_b (fun _ => ?_) (fun _ => ?_)
  · exact fun hg => ret1 (hR _ (Option.some.inj hg).symm) (fz_sc _ _)
  · refine bind_b fun x24 h24 => ?_
    refine imp (callQ_says (sg7 h24)) ?_
    refine imp exT2_b ?_
    refine imp ex_i64_b ?_
    refine cond_b (fun _ => ?_) (fun _ => ?_)
    · exact fun hg => ret1 (hR _ (Option.some.inj hg).symm) (fz_sc _ _)
    · refine bind_b fun x25 h25 => ?_
      refine imp (callQ_says (sg8 h25)) ?_
      refine imp exT2_b ?_
      refine imp ex_i64_b ?_
      refine bind_b fun x26 h26 => ?_
      refine imp (callQ_says (sg9 h26)) ?_
      refine imp exT2_b ?_
      refine imp ex_i64_b ?_
      refine imp (opN_of (show _ = some ((blkV (lstE TConfigGroup.E) 285 ([x25.1, x26.1] : List (List TConfigGroup))), [(285, some ⟨encs (lstE TConfigGroup.E) ([x25.1, x26.1] : List (List TConfigGroup)), 22⟩)]) from rfl)) ?_
      refine imp (opP_of (show _ = some ((intA (([x25.1, x26.1] : List (List TConfigGroup)).length : Int)), []) from len_blk)) ?_
      refine imp ex_i64_b ?_
      exact fun hg => L3_0_ok n false x24.1 x25.2 x26.2 ([x25.1, x26.1] : List (List TConfigGroup)) (([x25.1, x26.1] : List (List TConfigGroup)).length : Int) R  hR n _ hg (weak_mem [] rfl rfl rfl (okW_cons (.inl (leV_refl _)) (okW_cons (ent_lst (E := strE) _ false) (okW_cons (.inl (leV_refl _)) (okW_cons (.inl (leV_refl _)) (okW_cons (ent_blk_frz (E := (lstE TConfigGroup.E)) (ty := 22) (l' := ([x25.1, x26.1] : List (List TConfigGroup))) rfl (by first | rfl | (simp (disch := first | decide | assumption) only [mpushs_nil, mpushs_cons, mget_hd, mget_tl, mget_appW_o, mget_appW_n, mget_appW_e])) rfl) (okW_cons (.inl (leV_refl _)) (okW_cons (.inl (leV_refl _)) okW_nil))))))) okB_nil')
theorem sg3 {n : Nat} {a0 : List TConfigGroup} {a1 : ByteArray} {a2 : ByteArray} {a3 : List ByteArray} {t : ρ3} (h : g3 n a0 a1 a2 a3 = some t) : Says Try.prog KK.gl 3 [(lstA TConfigGroup.E a0), (strA a1), (strA a2), (lstA strE a3)] ((boolA t)) :=
  says_of_own (by first | rfl | simp [cleans, clean, encs_clean, En.cln]) (by first | rfl | simp [cleans, clean, encs_clean, En.cln]) (F3_own (lstA TConfigGroup.E a0) a1 a2 (lstA strE a3) _ (g3_ok n a0 a1 a2 a3 (Ans ((boolA t))) (fun r e u m h => by rw [e]; exact h) h))
/- skyway/config.find -/
theorem B27_0_ok (n : Nat) (a1 : ByteArray) (c4 : ByteArray) (a0 : List TConfigGroup) (c8 : Int) (v9 : Int) {t : (Int) ⊕ ρ27} (R : AV → Mem → Prop) (N0 : St → Prop) (hR : ∀ r : ρ27, t = (.inr r) → ∀ u m, Ans ((strA r)) u m → R u m) (hN0 : ∀ y : Int, t = (.inl y) → ∀ s' : St, Weak KK 20 0 s' (h27_0 a1 c4 (lstA TConfigGroup.E a0) c8 y []) → N0 s') : S27_0 n a1 c4 a0 c8 v9 = some t → B27_0 a1 c4 (lstA TConfigGroup.E a0) c8 v9 [] R N0 := by
  unfold S27_0 B27_0
  refine cond_b (fun _ => ?_) (fun _ => ?_)
  · refine bind_b fun x49 h49 => ?_
    refine imp (opP_of (show _ = some ((AV.ept [(strA x49.Position), (lstA strE x49.Sectors)] 0), []) from (idx_lst (E := TConfigGroup.E) rfl h49))) ?_
    refine imp (opP_of (show _ = some ((AV.agg [(strA x49.Position), (lstA strE x49.Sectors)]), []) from rfl)) ?_
    refine imp exA2_b ?_
    refine imp exStr_b ?_
    refine imp (chk_of rfl) ?_
    refine bind_b fun x50 h50 => ?_
    refine imp (callQ_says (sg23 h50)) ?_
    refine imp exB_b ?_
    refine cond_b (fun _ => ?_) (fun _ => ?_)
    · exact fun hg => ret1 (hR _ (Option.some.inj hg).symm) (fz_sc _ _)
    · exact fun hg => hN0 _ (Option.some.inj hg).symm _ (weak_mem [] rfl rfl rfl (okW_cons (.inl (leV_refl _)) (okW_cons (.inl (leV_refl _)) (okW_cons (ent_lst (E := TConfigGroup.E) _ false) (okW_cons (.inl (leV_refl _)) (okW_cons (.inl (leV_refl _)) okW_nil))))) okB_nil')
  · exact fun hg => ret1 (hR _ (Option.some.inj hg).symm) (fz_sc _ _)
theorem L27_0_ok (n : Nat) (a1 : ByteArray) (c4 : ByteArray) (a0 : List TConfigGroup) (c8 : Int) {t : ρ27} (R : AV → Mem → Prop) (hR : ∀ r : ρ27, t = r → ∀ u m, Ans ((strA r)) u m → R u m) (k : Nat) (x : Int) (hx : iterO (fun y : Int => S27_0 n a1 c4 a0 c8 y) k x = some t) {s : St} (hw : Weak KK 20 0 s (h27_0 a1 c4 (lstA TConfigGroup.E a0) c8 x [])) : Tri Try.prog KK 20 0 (.loop c27_0) s (q27_0 R ) :=
  L27_0 R  (σ := Nat × (Int)) (fun z => iterO (fun y : Int => S27_0 n a1 c4 a0 c8 y) z.1 z.2 = some t) (fun z => a1) (fun z => c4) (fun z => (lstA TConfigGroup.E a0)) (fun z => c8) (fun z => z.2) (fun z => []) (fun z => z.1) (by
    rintro ⟨k, y⟩ h
    cases k with
    | zero => exact (iterO_zero h).elim
    | succ k =>
      obtain ⟨u, h1, h2, h3⟩ := iterO_elim h
      exact B27_0_ok n a1 c4 a0 c8 y R  _ (fun r e => hR r (h3 _ e).symm)  (fun y' e s' hw => ⟨(k, y'), h2 _ e, Nat.lt_succ_self k, hw⟩) h1) (k, x) hx hw
theorem g27_ok (n : Nat) (a0 : List TConfigGroup) (a1 : ByteArray) {t : ρ27} (R : AV → Mem → Prop) (hR : ∀ r : ρ27, t = r → ∀ u m, Ans ((strA r)) u m → R u m) : g27 n a0 a1 = some t → F27 (lstA TConfigGroup.E a0) a1 R := by
  unfold g27 F27
  refine imp (opP_of (show _ = some ((intA (a0.length : Int)), []) from rfl)) ?_
  refine imp ex_i64_b ?_
  exact fun hg => L27_0_ok n a1 (⟨#[]⟩ : ByteArray) a0 (a0.length : Int) R  hR n _ hg (weak_mem [] rfl rfl rfl (okW_cons (.inl (leV_refl _)) (okW_cons (.inl (leV_refl _)) (okW_cons (ent_lst (E := TConfigGroup.E) _ false) (okW_cons (.inl (leV_refl _)) (okW_cons (.inl (leV_refl _)) okW_nil))))) okB_nil')
theorem sg27 {n : Nat} {a0 : List TConfigGroup} {a1 : ByteArray} {t : ρ27} (h : g27 n a0 a1 = some t) : Says Try.prog KK.gl 27 [(lstA TConfigGroup.E a0), (strA a1)] ((strA t)) :=
  says_of_own (by first | rfl | simp [cleans, clean, encs_clean, En.cln]) (by first | rfl | simp [cleans, clean, encs_clean, En.cln]) (F27_own (lstA TConfigGroup.E a0) a1 _ (g27_ok n a0 a1 (Ans ((strA t))) (fun r e u m h => by rw [e]; exact h) h))
/- skyway/config.Moves -/
theorem B12_0_ok (n : Nat) (a0 : List TConfigGroup) (a1 : List TConfigGroup) (c5 : Int) (c34 : List ByteArray) (c35 : Int) (v36 : Int) (L90000 : List TConfigMove) {t : (Int × List TConfigMove) ⊕ ρ12} (R : AV → Mem → Prop) (N0 : St → Prop) (hR : ∀ r : ρ12, t = (.inr r) → ∀ u m, Ans ((AV.tup [(lstA TConfigMove.E r.1), (intA r.2)])) u m → R u m) (hN0 : ∀ y : Int × List TConfigMove, t = (.inl y) → ∀ s' : St, Weak KK 58 0 s' (h12_0 (lstA TConfigGroup.E a0) (lstA TConfigGroup.E a1) AV.nils c5 (ownV TConfigMove.E 90000 y.2) (lstA strE c34) c35 y.1 [(90000, ownB TConfigMove.E 45 y.2)]) → N0 s') : S12_0 n a0 a1 c5 c34 c35 v36 L90000 = some t → B12_0 (lstA TConfigGroup.E a0) (lstA TConfigGroup.E a1) AV.nils c5 (ownV TConfigMove.E 90000 L90000) (lstA strE c34) c35 v36 [(90000, ownB TConfigMove.E 45 L90000)] R N0 := by
  unfold S12_0 B12_0
  refine cond_b (fun _ => ?_) (fun _ => ?_)
  · refine bind_b fun x48 h48 => ?_
    refine imp (opP_of (show _ = some ((AV.ept [(strA x48)] 0), []) from (idx_lst (E := strE) rfl h48))) ?_
    refine imp (opP_of (show _ = some ((strA x48), []) from rfl)) ?_
    refine imp exStr_b ?_
    refine bind_b fun x51 h51 => ?_
    refine imp (callQ_says (sg27 h51)) ?_
    refine imp exStr_b ?_
    refine bind_b fun x52 h52 => ?_
    refine imp (callQ_says (sg27 h52)) ?_
    refine imp exStr_b ?_
    refine cond_b (fun _ => ?_) (fun _ => ?_)
    · refine imp (opP_of (show _ = some ((AV.agg [(strA x48), (strA x51), (strA x52)]), []) from rfl)) ?_
      refine imp (opN_of (show _ = some ((blkV TConfigMove.E 100146 ([(⟨x48, x51, x52⟩ : TConfigMove)] : List TConfigMove)), [(100146, some ⟨encs TConfigMove.E ([(⟨x48, x51, x52⟩ : TConfigMove)] : List TConfigMove), 45⟩)]) from rfl)) ?_
      refine bind_b fun x54 h54 => ?_
      refine imp (opN_of (show _ = some ((ownV TConfigMove.E 100147 (L90000 ++ ([(⟨x48, x51, x52⟩ : TConfigMove)] : List TConfigMove))), (appW TConfigMove.E 100147 90000 45 L90000 ([(⟨x48, x51, x52⟩ : TConfigMove)] : List TConfigMove))) from (app_own (E := TConfigMove.E) (l' := L90000) (xs := ([(⟨x48, x51, x52⟩ : TConfigMove)] : List TConfigMove)) rfl rfl (cellsOf_blk (E := TConfigMove.E) (ty := 45) rfl rfl (by first | rfl | (simp (disch := first | decide | assumption) only [mpushs_nil, mpushs_cons, mget_hd, mget_tl, mget_appW_o, mget_appW_n, mget_appW_e]))) (by first | assumption | simp) rfl (fun hne => Eq.trans (by first | rfl | (simp (disch := first | decide | assumption) only [mpushs_nil, mpushs_cons, mget_hd, mget_tl, mget_appW_o, mget_appW_n, mget_appW_e])) (ownB_ne hne)) h54))) ?_
      exact fun hg => hN0 _ (Option.some.inj hg).symm _ (weak_mem [(90000, 100147)] rfl rfl rfl (okW_cons (ent_lst (E := TConfigGroup.E) _ false) (okW_cons (ent_lst (E := TConfigGroup.E) _ false) (okW_cons (.inl (leV_refl _)) (okW_cons (.inl (leV_refl _)) (okW_cons (ent_own (E := TConfigMove.E) (id := 100147) (l' := (L90000 ++ ([(⟨x48, x51, x52⟩ : TConfigMove)] : List TConfigMove))) rfl rfl) (okW_cons (ent_lst (E := strE) _ false) (okW_cons (.inl (leV_refl _)) (okW_cons (.inl (leV_refl _)) okW_nil)))))))) (okB_cons (okB_own (E := TConfigMove.E) (ty := 45) (l' := (L90000 ++ ([(⟨x48, x51, x52⟩ : TConfigMove)] : List TConfigMove))) rfl (show mget _ 100147 = _ from (by first | rfl | (simp (disch := first | decide | assumption) only [mpushs_nil, mpushs_cons, mget_hd, mget_tl, mget_appW_o, mget_appW_n, mget_appW_e])))) okB_nil'))
    · exact fun hg => hN0 _ (Option.some.inj hg).symm _ (weak_mem [(90000, 90000)] rfl rfl rfl (okW_cons (ent_lst (E := TConfigGroup.E) _ false) (okW_cons (ent_lst (E := TConfigGroup.E) _ false) (okW_cons (.inl (leV_refl _)) (okW_cons (.inl (leV_refl _)) (okW_cons (ent_own (E := TConfigMove.E) (id := 90000) (l' := L90000) rfl rfl) (okW_cons (ent_lst (E := strE) _ false) (okW_cons (.inl (leV_refl _)) (okW_cons (.inl (leV_refl _)) okW_nil)))))))) (okB_cons (okB_own (E := TConfigMove.E) (ty := 45) (l' := L90000) rfl (show mget _ 90000 = _ from (by first | rfl | (simp (disch := first | decide | assumption) only [mpushs_nil, mpushs_cons, mget_hd, mget_tl, mget_appW_o, mget_appW_n, mget_appW_e])))) okB_nil'))
  · exact fun hg => retN rfl (hR _ (Option.some.inj hg).symm) (fzL_cons (fz_own (E := TConfigMove.E) (ty := 45) (l' := L90000) _ rfl (by first | rfl | (simp (disch := first | decide | assumption) only [mpushs_nil, mpushs_cons, mget_hd, mget_tl, mget_appW_o, mget_appW_n, mget_appW_e]))) (fzL_cons (fz_sc _ _) fzL_nil))
theorem L12_0_ok (n : Nat) (a0 : List TConfigGroup) (a1 : List TConfigGroup) (c5 : Int) (c34 : List ByteArray) (c35 : Int) {t : ρ12} (R : AV → Mem → Prop) (hR : ∀ r : ρ12, t = r → ∀ u m, Ans ((AV.tup [(lstA TConfigMove.E r.1), (intA r.2)])) u m → R u m) (k : Nat) (x : Int × List TConfigMove) (hx : iterO (fun y : Int × List TConfigMove => S12_0 n a0 a1 c5 c34 c35 y.1 y.2) k x = some t) {s : St} (hw : Weak KK 58 0 s (h12_0 (lstA TConfigGroup.E a0) (lstA TConfigGroup.E a1) AV.nils c5 (ownV TConfigMove.E 90000 x.2) (lstA strE c34) c35 x.1 [(90000, ownB TConfigMove.E 45 x.2)])) : Tri Try.prog KK 58 0 (.loop c12_0) s (q12_0 R ) :=
  L12_0 R  (σ := Nat × (Int × List TConfigMove)) (fun z => iterO (fun y : Int × List TConfigMove => S12_0 n a0 a1 c5 c34 c35 y.1 y.2) z.1 z.2 = some t) (fun z => (lstA TConfigGroup.E a0)) (fun z => (lstA TConfigGroup.E a1)) (fun z => AV.nils) (fun z => c5) (fun z => (ownV TConfigMove.E 90000 z.2.2)) (fun z => (lstA strE c34)) (fun z => c35) (fun z => z.2.1) (fun z => [(90000, ownB TConfigMove.E 45 z.2.2)]) (fun z => z.1) (by
    rintro ⟨k, y⟩ h
    cases k with
    | zero => exact (iterO_zero h).elim
    | succ k =>
      obtain ⟨u, h1, h2, h3⟩ := iterO_elim h
      exact B12_0_ok n a0 a1 c5 c34 c35 y.1 y.2 R  _ (fun r e => hR r (h3 _ e).symm)  (fun y' e s' hw => ⟨(k, y'), h2 _ e, Nat.lt_succ_self k, hw⟩) h1) (k, x) hx hw
theorem g12_ok (n : Nat) (a0 : List TConfigGroup) (a1 : List TConfigGroup) {t : ρ12} (R : AV → Mem → Prop) (hR : ∀ r : ρ12, t = r → ∀ u m, Ans ((AV.tup [(lstA TConfigMove.E r.1), (intA r.2)])) u m → R u m) : g12 n a0 a1 = some t → F12 (lstA TConfigGroup.E a0) (lstA TConfigGroup.E a1) R := by
  unfold g12 F12
  refine bind_b fun x45 h45 => ?_
  refine imp (callQ_says (sg7 h45)) ?_
  refine imp exT2_b ?_
  refine imp ex_i64_b ?_
  refine cond_b (fun _ => ?_) (fun _ => ?_)
  · exact fun hg => retN rfl (hR _ (Option.some.inj hg).symm) (fzL_cons (fz_nils (E := TConfigMove.E) _) (fzL_cons (fz_sc _ _) fzL_nil))
  · refine bind_b fun x46 h46 => ?_
    refine imp (callQ_says (sg7 h46)) ?_
    refine imp exT2_b ?_
    refine imp ex_i64_b ?_
    refine cond_b (fun _ => ?_) (fun _ => ?_)
    · exact fun hg => retN rfl (hR _ (Option.some.inj hg).symm) (fzL_cons (fz_nils (E := TConfigMove.E) _) (fzL_cons (fz_sc _ _) fzL_nil))
    · refine bind_b fun x47 h47 => ?_
      refine imp (callQ_says (sg10 h47)) ?_
      refine imp exB_b ?_
      refine cond_b (fun _ => ?_) (fun _ => ?_)
      · exact fun hg => retN rfl (hR _ (Option.some.inj hg).symm) (fzL_cons (fz_nils (E := TConfigMove.E) _) (fzL_cons (fz_sc _ _) fzL_nil))
      · refine imp (opP_of (show _ = some ((intA (x45.1.length : Int)), []) from rfl)) ?_
        refine imp ex_i64_b ?_
        exact fun hg => L12_0_ok n a0 a1 (0) x45.1 (x45.1.length : Int) R  hR n _ hg (weak_mem [(90000, 89500)] rfl rfl rfl (okW_cons (ent_lst (E := TConfigGroup.E) _ false) (okW_cons (ent_lst (E := TConfigGroup.E) _ false) (okW_cons (.inl (leV_refl _)) (okW_cons (.inl (leV_refl _)) (okW_cons ent_nils_own (okW_cons (ent_lst (E := strE) _ false) (okW_cons (.inl (leV_refl _)) (okW_cons (.inl (leV_refl _)) okW_nil)))))))) (okB_cons okB_nil okB_nil'))
theorem sg12 {n : Nat} {a0 : List TConfigGroup} {a1 : List TConfigGroup} {t : ρ12} (h : g12 n a0 a1 = some t) : Says Try.prog KK.gl 12 [(lstA TConfigGroup.E a0), (lstA TConfigGroup.E a1)] ((AV.tup [(lstA TConfigMove.E t.1), (intA t.2)])) :=
  says_of_own (by first | rfl | simp [cleans, clean, encs_clean, En.cln]) (by first | rfl | simp [cleans, clean, encs_clean, En.cln]) (F12_own (lstA TConfigGroup.E a0) (lstA TConfigGroup.E a1) _ (g12_ok n a0 a1 (Ans ((AV.tup [(lstA TConfigMove.E t.1), (intA t.2)]))) (fun r e u m h => by rw [e]; exact h) h))
/- skyway/skywaykeep3.ConfigInverts$1 -/
theorem g14_ok (n : Nat) (a0 : TConfigGroup) (a1_0 : ByteArray) {t : ρ14} (R : AV → Mem → Prop) (hR : ∀ r : ρ14, t = r → ∀ u m, Ans ((boolA r)) u m → R u m) : g14 n a0 a1_0 = some t → F14 a0.Position (lstA strE a0.Sectors) (AV.ept [(strA a1_0)] 0) R := by
  unfold g14 F14
  refine imp (chk_of rfl) ?_
  refine imp (opP_of (show _ = some ((strA a1_0), []) from rfl)) ?_
  refine imp exStr_b ?_
  exact fun hg => ret1 (hR _ (Option.some.inj hg).symm) (fz_sc _ _)
theorem sg14 {n : Nat} {a0 : TConfigGroup} {a1_0 : ByteArray} {t : ρ14} (h : g14 n a0 a1_0 = some t) : Says Try.prog KK.gl 14 [(AV.agg [(strA a0.Position), (lstA strE a0.Sectors)]), (AV.ept [(strA a1_0)] 0)] ((boolA t)) :=
  says_of_own (by first | rfl | simp [cleans, clean, encs_clean, En.cln]) (by first | rfl | simp [cleans, clean, encs_clean, En.cln]) (F14_own a0.Position (lstA strE a0.Sectors) (AV.ept [(strA a1_0)] 0) _ (g14_ok n a0 a1_0 (Ans ((boolA t))) (fun r e u m h => by rw [e]; exact h) h))
/- slices.IndexFunc[[]skyway/api.ConfigGroup,skyway/api.ConfigGroup] -/
theorem B13_0_x1_ok (n : Nat) (a0 : List TConfigGroup) (a1_0_0 : ByteArray) (c4 : Int) (c7 : Int) (v8 : Int) {t : (Int) ⊕ ρ13} (R : AV → Mem → Prop) (N0 : St → Prop) (hR : ∀ r : ρ13, t = (.inr r) → ∀ u m, Ans ((intA r)) u m → R u m) (hN0 : ∀ y : Int, t = (.inl y) → ∀ s' : St, Weak KK 19 0 s' (h13_0 (lstA TConfigGroup.E a0) (AV.fn 14 [(AV.ept [(strA a1_0_0)] 0)]) c4 c7 y []) → N0 s') : S13_0_x1 n a0 a1_0_0 c4 c7 v8 = some t → B13_0 (lstA TConfigGroup.E a0) (AV.fn 14 [(AV.ept [(strA a1_0_0)] 0)]) c4 c7 v8 [] R N0 := by
  unfold S13_0_x1 B13_0
  refine cond_b (fun _ => ?_) (fun _ => ?_)
  · refine bind_b fun x57 h57 => ?_
    refine imp (opP_of (show _ = some ((AV.ept [(strA x57.Position), (lstA strE x57.Sectors)] 0), []) from (idx_lst (E := TConfigGroup.E) rfl h57))) ?_
    refine imp (opP_of (show _ = some ((AV.agg [(strA x57.Position), (lstA strE x57.Sectors)]), []) from rfl)) ?_
    refine imp exA2_b ?_
    refine imp exStr_b ?_
    refine bind_b fun x58 h58 => ?_
    refine imp fnArgs_b ?_
    refine imp (cond_ff rfl) ?_
    refine imp (callW_says (sg14 h58)) ?_
    refine imp exB_b ?_
    refine cond_b (fun _ => ?_) (fun _ => ?_)
    · exact fun hg => ret1 (hR _ (Option.some.inj hg).symm) (fz_sc _ _)
    · exact fun hg => hN0 _ (Option.some.inj hg).symm _ (weak_mem [] rfl rfl rfl (okW_cons (ent_lst (E := TConfigGroup.E) _ false) (okW_cons (ent_clean (leV_refl _) (by simp [clean, cleans, encs_clean])) (okW_cons (.inl (leV_refl _)) (okW_cons (.inl (leV_refl _)) (okW_cons (.inl (leV_refl _)) okW_nil))))) okB_nil')
  · exact fun hg => ret1 (hR _ (Option.some.inj hg).symm) (fz_sc _ _)
theorem L13_0_x1_ok (n : Nat) (a0 : List TConfigGroup) (a1_0_0 : ByteArray) (c4 : Int) (c7 : Int) {t : ρ13} (R : AV → Mem → Prop) (hR : ∀ r : ρ13, t = r → ∀ u m, Ans ((intA r)) u m → R u m) (k : Nat) (x : Int) (hx : iterO (fun y : Int => S13_0_x1 n a0 a1_0_0 c4 c7 y) k x = some t) {s : St} (hw : Weak KK 19 0 s (h13_0 (lstA TConfigGroup.E a0) (AV.fn 14 [(AV.ept [(strA a1_0_0)] 0)]) c4 c7 x [])) : Tri Try.prog KK 19 0 (.loop c13_0) s (q13_0 R ) :=
  L13_0 R  (σ := Nat × (Int)) (fun z => iterO (fun y : Int => S13_0_x1 n a0 a1_0_0 c4 c7 y) z.1 z.2 = some t) (fun z => (lstA TConfigGroup.E a0)) (fun z => (AV.fn 14 [(AV.ept [(strA a1_0_0)] 0)])) (fun z => c4) (fun z => c7) (fun z => z.2) (fun z => []) (fun z => z.1) (by
    rintro ⟨k, y⟩ h
    cases k with
    | zero => exact (iterO_zero h).elim
    | succ k =>
      obtain ⟨u, h1, h2, h3⟩ := iterO_elim h
      exact B13_0_x1_ok n a0 a1_0_0 c4 c7 y R  _ (fun r e => hR r (h3 _ e).symm)  (fun y' e s' hw => ⟨(k, y'), h2 _ e, Nat.lt_succ_self k, hw⟩) h1) (k, x) hx hw
theorem g13_1_ok (n : Nat) (a0 : List TConfigGroup) (a1_0_0 : ByteArray) {t : ρ13} (R : AV → Mem → Prop) (hR : ∀ r : ρ13, t = r → ∀ u m, Ans ((intA r)) u m → R u m) : g13_1 n a0 a1_0_0 = some t → F13 (lstA TConfigGroup.E a0) (AV.fn 14 [(AV.ept [(strA a1_0_0)] 0)]) R := by
  unfold g13_1 F13
  refine imp (opP_of (show _ = some ((intA (a0.length : Int)), []) from rfl)) ?_
  refine imp ex_i64_b ?_
  exact fun hg => L13_0_x1_ok n a0 a1_0_0 (0) (a0.length : Int) R  hR n _ hg (weak_mem [] rfl rfl rfl (okW_cons (ent_lst (E := TConfigGroup.E) _ false) (okW_cons (ent_clean (leV_refl _) (by simp [clean, cleans, encs_clean])) (okW_cons (.inl (leV_refl _)) (okW_cons (.inl (leV_refl _)) (okW_cons (.inl (leV_refl _)) okW_nil))))) okB_nil')
theorem sg13_1 {n : Nat} {a0 : List TConfigGroup} {a1_0_0 : ByteArray} {t : ρ13} (h : g13_1 n a0 a1_0_0 = some t) : Says Try.prog KK.gl 13 [(lstA TConfigGroup.E a0), (AV.fn 14 [(AV.ept [(strA a1_0_0)] 0)])] ((intA t)) :=
  says_of_own (by first | rfl | simp [cleans, clean, encs_clean, En.cln]) (by first | rfl | simp [cleans, clean, encs_clean, En.cln]) (F13_own (lstA TConfigGroup.E a0) (AV.fn 14 [(AV.ept [(strA a1_0_0)] 0)]) _ (g13_1_ok n a0 a1_0_0 (Ans ((intA t))) (fun r e u m h => by rw [e]; exact h) h))
/- skyway/skywaykeep3.ConfigInverts -/
theorem g4_ok (n : Nat) (a0 : List TConfigGroup) (a1 : ByteArray) (a2 : ByteArray) (a3 : List ByteArray) {t : ρ4} (R : AV → Mem → Prop) (hR : ∀ r : ρ4, t = r → ∀ u m, Ans ((boolA r)) u m → R u m) : g4 n a0 a1 a2 a3 = some t → F4 (lstA TConfigGroup.E a0) a1 a2 (lstA strE a3) R := by
  unfold g4 F4
  refine bind_b fun x42 h42 => ?_
  refine imp (callQ_says (sg6 h42)) ?_
  refine imp exB_b ?_
  refine cond_b (fun _ => ?_) (fun _ => ?_)
  · exact fun hg => ret1 (hR _ (Option.some.inj hg).symm) (fz_sc _ _)
  · refine bind_b fun x43 h43 => ?_
    refine imp (callQ_says (sg9 h43)) ?_
    refine imp exT2_b ?_
    refine imp ex_i64_b ?_
    refine cond_b (fun _ => ?_) (fun _ => ?_)
    · refine bind_b fun x44 h44 => ?_
      refine imp (callQ_says (sg8 h44)) ?_
      refine imp exT2_b ?_
      refine imp ex_i64_b ?_
      refine bind_b fun x55 h55 => ?_
      refine imp (callQ_says (sg12 h55)) ?_
      refine imp exT2_b ?_
      refine imp ex_i64_b ?_
      refine cond_b (fun _ => ?_) (fun _ => ?_)
      · exact fun hg => ret1 (hR _ (Option.some.inj hg).symm) (fz_sc _ _)
      · refine cond_b (fun _ => ?_) (fun _ => ?_)
        · exact fun hg => ret1 (hR _ (Option.some.inj hg).symm) (fz_sc _ _)
        · refine imp (opP_of (show _ = some ((intA (x55.1.length : Int)), []) from rfl)) ?_
          refine imp ex_i64_b ?_
          refine cond_b (fun _ => ?_) (fun _ => ?_)
          · exact fun hg => ret1 (hR _ (Option.some.inj hg).symm) (fz_sc _ _)
          · refine bind_b fun x56 h56 => ?_
            refine imp (callQ_says (sg8 h56)) ?_
            refine imp exT2_b ?_
            refine imp ex_i64_b ?_
            refine cond_b (fun _ => ?_) (fun _ => ?_)
            · exact fun hg => ret1 (hR _ (Option.some.inj hg).symm) (fz_sc _ _)
            · refine bind_b fun x59 h59 => ?_
              refine imp (callQ_pure (pure_snapN (snL_cons (sn_lst (E := TConfigGroup.E) _ _ false) (snL_cons (sn_fn _ _ (snL_cons (sn_ptr _ (ty := 9) (us := [(strA a2)]) (by first | rfl | (simp (disch := first | decide | assumption) only [mpushs_nil, mpushs_cons, mget_hd, mget_tl, mget_appW_o, mget_appW_n, mget_appW_e])) (snL_cons (sn_sc _ _) snL_nil)) snL_nil)) snL_nil)) (sg13_1 h59) rfl)) ?_
              refine imp ex_i64_b ?_
              refine cond_b (fun _ => ?_) (fun _ => ?_)
              · exact fun hg => ret1 (hR _ (Option.some.inj hg).symm) (fz_sc _ _)
              · refine bind_b fun x60 h60 => ?_
                refine imp (opP_of (show _ = some ((AV.ept [(strA x60.Position), (lstA strE x60.Sectors)] 0), []) from (idx_lst (E := TConfigGroup.E) rfl h60))) ?_
                refine imp (opP_of (show _ = some ((AV.ept [(strA x60.Position), (lstA strE x60.Sectors)] 1), []) from rfl)) ?_
                refine imp (opP_of (show _ = some ((lstA strE x60.Sectors), []) from rfl)) ?_
                refine bind_b fun x61 h61 => ?_
                refine imp (callQ_says (sg9 h61)) ?_
                refine imp exT2_b ?_
                refine imp ex_i64_b ?_
                refine bind_b fun x62 h62 => ?_
                refine imp (callQ_says (sg12 h62)) ?_
                refine imp exT2_b ?_
                refine imp ex_i64_b ?_
                refine cond_b (fun _ => ?_) (fun _ => ?_)
                · refine cond_b (fun _ => ?_) (fun _ => ?_)
                  · refine imp (opP_of (show _ = some ((intA (x62.1.length : Int)), []) from rfl)) ?_
                    refine imp ex_i64_b ?_
                    exact fun hg => ret1 (hR _ (Option.some.inj hg).symm) (fz_sc _ _)
                  · exact fun hg => ret1 (hR _ (Option.some.inj hg).symm) (fz_sc _ _)
                · exact fun hg => ret1 (hR _ (Option.some.inj hg).symm) (fz_sc _ _)
    · refine bind_b fun x63 h63 => ?_
      refine imp (callQ_says (sg8 h63)) ?_
      refine imp exT2_b ?_
      refine imp ex_i64_b ?_
      refine cond_b (fun _ => ?_) (fun _ => ?_)
      · exact fun hg => ret1 (hR _ (Option.some.inj hg).symm) (fz_sc _ _)
      · refine bind_b fun x64 h64 => ?_
        refine imp (callQ_pure (pure_snapN (snL_cons (sn_lst (E := TConfigGroup.E) _ _ false) (snL_cons (sn_fn _ _ (snL_cons (sn_ptr _ (ty := 9) (us := [(strA a2)]) (by first | rfl | (simp (disch := first | decide | assumption) only [mpushs_nil, mpushs_cons, mget_hd, mget_tl, mget_appW_o, mget_appW_n, mget_appW_e])) (snL_cons (sn_sc _ _) snL_nil)) snL_nil)) snL_nil)) (sg13_1 h64) rfl)) ?_
        refine imp ex_i64_b ?_
        refine cond_b (fun _ => ?_) (fun _ => ?_)
        · exact fun hg => ret1 (hR _ (Option.some.inj hg).symm) (fz_sc _ _)
        · refine bind_b fun x65 h65 => ?_
          refine imp (opP_of (show _ = some ((AV.ept [(strA x65.Position), (lstA strE x65.Sectors)] 0), []) from (idx_lst (E := TConfigGroup.E) rfl h65))) ?_
          refine imp (opP_of (show _ = some ((AV.ept [(strA x65.Position), (lstA strE x65.Sectors)] 1), []) from rfl)) ?_
          refine imp (opP_of (show _ = some ((lstA strE x65.Sectors), []) from rfl)) ?_
          refine bind_b fun x66 h66 => ?_
          refine imp (callQ_says (sg9 h66)) ?_
          refine imp exT2_b ?_
          refine imp ex_i64_b ?_
          refine bind_b fun x67 h67 => ?_
          refine imp (callQ_says (sg12 h67)) ?_
          refine imp exT2_b ?_
          refine imp ex_i64_b ?_
          refine cond_b (fun _ => ?_) (fun _ => ?_)
          · refine cond_b (fun _ => ?_) (fun _ => ?_)
            · refine imp (opP_of (show _ = some ((intA (x67.1.length : Int)), []) from rfl)) ?_
              refine imp ex_i64_b ?_
              exact fun hg => ret1 (hR _ (Option.some.inj hg).symm) (fz_sc _ _)
            · exact fun hg => ret1 (hR _ (Option.some.inj hg).symm) (fz_sc _ _)
          · exact fun hg => ret1 (hR _ (Option.some.inj hg).symm) (fz_sc _ _)
theorem sg4 {n : Nat} {a0 : List TConfigGroup} {a1 : ByteArray} {a2 : ByteArray} {a3 : List ByteArray} {t : ρ4} (h : g4 n a0 a1 a2 a3 = some t) : Says Try.prog KK.gl 4 [(lstA TConfigGroup.E a0), (strA a1), (strA a2), (lstA strE a3)] ((boolA t)) :=
  says_of_own (by first | rfl | simp [cleans, clean, encs_clean, En.cln]) (by first | rfl | simp [cleans, clean, encs_clean, En.cln]) (F4_own (lstA TConfigGroup.E a0) a1 a2 (lstA strE a3) _ (g4_ok n a0 a1 a2 a3 (Ans ((boolA t))) (fun r e u m h => by rw [e]; exact h) h))
end Go.Proofs.Ythjcdlbkdobmiaa
