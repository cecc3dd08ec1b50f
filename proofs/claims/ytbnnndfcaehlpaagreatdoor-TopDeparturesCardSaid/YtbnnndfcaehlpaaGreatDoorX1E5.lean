/- Plain functional programs out of the program's functions, with proofs that the functions compute them; printed by wip/Ext.lean.txt. -/
import Derived.Test.YtbnnndfcaehlpaaGreatDoorX1E4
import Derived.Test.YtbnnndfcaehlpaaGreatDoorShH
set_option linter.unusedVariables false
set_option linter.unusedSimpArgs false
set_option maxRecDepth 100000
set_option maxHeartbeats 4000000
namespace Go.Proofs.YtbnnndfcaehlpaaGreatDoor
/- skyway/skywaytop.TopDepartures -/
theorem B3_1_ok (n : Nat) (c8 : Bool) (c11 : List TTaxiMove) (c77 : List TRunwayMove) (c78 : Int) (v79 : Int) {t : (Int) ⊕ ρ3} (R : AV → Mem → Prop) (N0 : St → Prop) (hR : ∀ r : ρ3, t = (.inr r) → ∀ u m, Ans ((boolA r)) u m → R u m) (hN0 : ∀ y : Int, t = (.inl y) → ∀ s' : St, Weak KK 112 0 s' (h3_1 c8 (lstA TTaxiMove.E c11) (lstA TRunwayMove.E c77) c78 y []) → N0 s') : S3_1 n c8 c11 c77 c78 v79 = some t → B3_1 c8 (lstA TTaxiMove.E c11) (lstA TRunwayMove.E c77) c78 v79 [] R N0 := by
  unfold S3_1 B3_1
  refine cond_b (fun _ => ?_) (fun _ => ?_)
  · refine bind_b fun x204 h204 => ?_
    refine iq (AV.ept [(intA x204.Time), (intA x204.Wake), (boolA x204.Departs), (intA x204.End)] 0) (idx_lst (E := TRunwayMove.E) rfl h204) ?_
    refine iq (AV.agg [(intA x204.Time), (intA x204.Wake), (boolA x204.Departs), (intA x204.End)]) rfl ?_
    refine imp exA4_b ?_
    iterate 2 refine imp ex_i64_b ?_
    refine imp exB_b ?_
    refine imp ex_i64_b ?_
    refine bind_b fun x205 h205 => ?_
    refine iq (AV.ept [(strA x205.Call), (intA x205.Push), (intA x205.Hold), (intA x205.Leave)] 0) (idx_lst (E := TTaxiMove.E) rfl h205) ?_
    refine iq (AV.ept [(strA x205.Call), (intA x205.Push), (intA x205.Hold), (intA x205.Leave)] 3) rfl ?_
    refine iq (intA x205.Leave) rfl ?_
    refine imp ex_i64_b ?_
    refine cond_b (fun _ => ?_) (fun _ => ?_)
    · exact fun hg => ret1 (hR _ (Option.some.inj hg).symm) (fz_sc _ _)
    · refine cond_b (fun _ => ?_) (fun _ => ?_)
      · exact fun hg => ret1 (hR _ (Option.some.inj hg).symm) (fz_sc _ _)
      · refine bind_b fun x206 h206 => ?_
        refine iq (AV.ept [(strA x206.Call), (intA x206.Push), (intA x206.Hold), (intA x206.Leave)] 0) (idx_lst (E := TTaxiMove.E) rfl h206) ?_
        refine iq (AV.ept [(strA x206.Call), (intA x206.Push), (intA x206.Hold), (intA x206.Leave)] 2) rfl ?_
        refine iq (intA x206.Hold) rfl ?_
        refine imp ex_i64_b ?_
        refine bind_b fun x207 h207 => ?_
        refine iq (AV.ept [(strA x207.Call), (intA x207.Push), (intA x207.Hold), (intA x207.Leave)] 0) (idx_lst (E := TTaxiMove.E) rfl h207) ?_
        refine iq (AV.ept [(strA x207.Call), (intA x207.Push), (intA x207.Hold), (intA x207.Leave)] 1) rfl ?_
        refine iq (intA x207.Push) rfl ?_
        refine imp ex_i64_b ?_
        refine cond_b (fun _ => ?_) (fun _ => ?_)
        · exact fun hg => ret1 (hR _ (Option.some.inj hg).symm) (fz_sc _ _)
        · exact fun hg => hN0 _ (Option.some.inj hg).symm _ (weak_mem [] rfl rfl rfl (okW_cons (.inl (leV_refl _)) (okW_cons (ent_lst (E := TTaxiMove.E) _ false) (okW_cons (ent_lst (E := TRunwayMove.E) _ false) (okW_cons (.inl (leV_refl _)) (okW_cons (.inl (leV_refl _)) okW_nil))))) okB_nil')
  · exact fun hg => ret1 (hR _ (Option.some.inj hg).symm) (fz_sc _ _)
theorem L3_1_ok (n : Nat) (c8 : Bool) (c11 : List TTaxiMove) (c77 : List TRunwayMove) (c78 : Int) {t : ρ3} (R : AV → Mem → Prop) (hR : ∀ r : ρ3, t = r → ∀ u m, Ans ((boolA r)) u m → R u m) (k : Nat) (x : Int) (hx : iterO (fun y : Int => S3_1 n c8 c11 c77 c78 y) k x = some t) {s : St} (hw : Weak KK 112 0 s (h3_1 c8 (lstA TTaxiMove.E c11) (lstA TRunwayMove.E c77) c78 x [])) : Tri pg KK 112 0 (.loop c3_1) s (q3_1 R ) :=
  L3_1 R  (σ := Nat × (Int)) (fun z => iterO (fun y : Int => S3_1 n c8 c11 c77 c78 y) z.1 z.2 = some t) (fun z => c8) (fun z => (lstA TTaxiMove.E c11)) (fun z => (lstA TRunwayMove.E c77)) (fun z => c78) (fun z => z.2) (fun z => []) (fun z => z.1) (by
    rintro ⟨k, y⟩ h
    cases k with
    | zero => exact (iterO_zero h).elim
    | succ k =>
      obtain ⟨u, h1, h2, h3⟩ := iterO_elim h
      exact B3_1_ok n c8 c11 c77 c78 y R  _ (fun r e => hR r (h3 _ e).symm)  (fun y' e s' hw => ⟨(k, y'), h2 _ e, Nat.lt_succ_self k, hw⟩) h1) (k, x) hx hw
theorem B3_0_ok (n : Nat) (x61 : Int) (c8 : Bool) (c10 : Int) (c11 : List TTaxiMove) (c47 : Int) (v48 : Int) (L90000 : List TRunwayReady) {t : (Int × List TRunwayReady) ⊕ ρ3} (R : AV → Mem → Prop) (N0 : St → Prop) (hR : ∀ r : ρ3, t = (.inr r) → ∀ u m, Ans ((boolA r)) u m → R u m) (hN0 : ∀ y : Int × List TRunwayReady, t = (.inl y) → ∀ s' : St, Weak KK 112 0 s' (h3_0 x61 c8 c10 (lstA TTaxiMove.E c11) (ownV TRunwayReady.E 90000 y.2) (lstA TTaxiMove.E c11) c47 y.1 [(90000, ownB TRunwayReady.E 40 y.2)]) → N0 s') : S3_0 n x61 c8 c10 c11 c47 v48 L90000 = some t → B3_0 x61 c8 c10 (lstA TTaxiMove.E c11) (ownV TRunwayReady.E 90000 L90000) (lstA TTaxiMove.E c11) c47 v48 [(90000, ownB TRunwayReady.E 40 L90000)] R N0 := by
  unfold S3_0 B3_0
  refine cond_b (fun _ => ?_) (fun _ => ?_)
  · refine bind_b fun x138 h138 => ?_
    refine iq (AV.ept [(strA x138.Call), (intA x138.Push), (intA x138.Hold), (intA x138.Leave)] 0) (idx_lst (E := TTaxiMove.E) rfl h138) ?_
    refine iq (AV.agg [(strA x138.Call), (intA x138.Push), (intA x138.Hold), (intA x138.Leave)]) rfl ?_
    refine imp exA4_b ?_
    refine imp exStr_b ?_
    iterate 3 refine imp ex_i64_b ?_
    refine iq (AV.agg [(intA x138.Leave), (intA x61)]) rfl ?_
    refine imp (opN_of (show _ = some ((blkV TRunwayReady.E 100010 ([(⟨x138.Leave, x61⟩ : TRunwayReady)] : List TRunwayReady)), [(100010, some ⟨encs TRunwayReady.E ([(⟨x138.Leave, x61⟩ : TRunwayReady)] : List TRunwayReady), 40⟩)]) from rfl)) ?_
    refine bind_b fun x140 h140 => ?_
    refine imp (opN_of (show _ = some ((ownV TRunwayReady.E 100011 (L90000 ++ ([(⟨x138.Leave, x61⟩ : TRunwayReady)] : List TRunwayReady))), (appW TRunwayReady.E 100011 90000 40 L90000 ([(⟨x138.Leave, x61⟩ : TRunwayReady)] : List TRunwayReady))) from (app_own (E := TRunwayReady.E) (l' := L90000) (xs := ([(⟨x138.Leave, x61⟩ : TRunwayReady)] : List TRunwayReady)) rfl rfl (cellsOf_blk (E := TRunwayReady.E) (ty := 40) rfl rfl (by first | rfl | (simp (disch := first | decide | assumption) only [mpushs_nil, mpushs_cons, mget_hd, mget_tl, mget_appW_o, mget_appW_n, mget_appW_e]))) (by first | assumption | simp) rfl (fun hne => Eq.trans (by first | rfl | (simp (disch := first | decide | assumption) only [mpushs_nil, mpushs_cons, mget_hd, mget_tl, mget_appW_o, mget_appW_n, mget_appW_e])) (ownB_ne hne)) h140))) ?_
    exact fun hg => hN0 _ (Option.some.inj hg).symm _ (weak_mem [(90000, 100011)] rfl rfl rfl (okW_cons (.inl (leV_refl _)) (okW_cons (.inl (leV_refl _)) (okW_cons (.inl (leV_refl _)) (okW_cons (ent_lst (E := TTaxiMove.E) _ false) (okW_cons (ent_own (E := TRunwayReady.E) (id := 100011) (l' := (L90000 ++ ([(⟨x138.Leave, x61⟩ : TRunwayReady)] : List TRunwayReady))) rfl rfl) (okW_cons (ent_lst (E := TTaxiMove.E) _ false) (okW_cons (.inl (leV_refl _)) (okW_cons (.inl (leV_refl _)) okW_nil)))))))) (okB_cons (okB_own (E := TRunwayReady.E) (ty := 40) (l' := (L90000 ++ ([(⟨x138.Leave, x61⟩ : TRunwayReady)] : List TRunwayReady))) rfl (show mget _ 100011 = _ from (by first | rfl | (simp (disch := first | decide | assumption) only [mpushs_nil, mpushs_cons, mget_hd, mget_tl, mget_appW_o, mget_appW_n, mget_appW_e])))) okB_nil'))
  · refine iq (AV.agg [(intA (0)), (intA (0))]) rfl ?_
    refine imp (opN_of (show _ = some ((blkV TRunwaySpan.E 100002 ([(⟨(0), (0)⟩ : TRunwaySpan)] : List TRunwaySpan)), [(100002, some ⟨encs TRunwaySpan.E ([(⟨(0), (0)⟩ : TRunwaySpan)] : List TRunwaySpan), 45⟩)]) from rfl)) ?_
    refine bind_b fun x141 h141 => ?_
    refine imp (callQ_says (sg7 h141)) ?_
    refine imp exA16_b ?_
    iterate 16 refine imp ex_i64_b ?_
    refine bind_b fun x190 h190 => ?_
    refine imp (callW_D (show PureD _ _ _ _ _ _ (AV.tup [(ownV TRunwayMove.E 100068 x190.1), (intA x190.2)]) [(100068, ownB TRunwayMove.E 48 x190.1)] from mg9S h190 (snL_cons (sn_nils (E := TRunwayMove.E) _) (snL_cons (sn_blk (E := TRunwaySpan.E) (ty := 45) (l' := ([(⟨(0), (0)⟩ : TRunwaySpan)] : List TRunwaySpan)) _ TRunwaySpan.nf rfl (by first | rfl | (simp (disch := first | decide | assumption) only [mpushs_nil, mpushs_cons, mget_hd, mget_tl, mget_appW_o, mget_appW_n, mget_appW_e]))) (snL_cons (sn_agg _ (snL_cons (sn_sc _ _) (snL_cons (sn_sc _ _) (snL_cons (sn_sc _ _) (snL_cons (sn_sc _ _) (snL_cons (sn_sc _ _) (snL_cons (sn_sc _ _) (snL_cons (sn_sc _ _) (snL_cons (sn_sc _ _) (snL_cons (sn_sc _ _) (snL_cons (sn_sc _ _) (snL_cons (sn_sc _ _) (snL_cons (sn_sc _ _) (snL_cons (sn_sc _ _) (snL_cons (sn_sc _ _) (snL_cons (sn_sc _ _) (snL_cons (sn_sc _ _) snL_nil))))))))))))))))) (snL_cons (sn_own (E := TRunwayReady.E) (ty := 40) (l' := L90000) _ TRunwayReady.nf rfl (by first | rfl | (simp (disch := first | decide | assumption) only [mpushs_nil, mpushs_cons, mget_hd, mget_tl, mget_appW_o, mget_appW_n, mget_appW_e]))) snL_nil)))))) ?_
    refine imp exT2_b ?_
    refine imp ex_i64_b ?_
    refine cond_b (fun _ => ?_) (fun _ => ?_)
    · exact fun hg => ret1 (hR _ (Option.some.inj hg).symm) (fz_sc _ _)
    · refine imp (opP_of (show _ = some ((intA (x190.1.length : Int)), []) from len_own)) ?_
      refine imp ex_i64_b ?_
      refine iq (intA (c11.length : Int)) rfl ?_
      refine imp ex_i64_b ?_
      refine cond_b (fun _ => ?_) (fun _ => ?_)
      · exact fun hg => ret1 (hR _ (Option.some.inj hg).symm) (fz_sc _ _)
      · refine imp (opP_of (show _ = some ((intA (x190.1.length : Int)), []) from len_own)) ?_
        refine imp ex_i64_b ?_
        refine mapInr_b fun t0 e0 => ?_
        exact fun hg => L3_1_ok n c8 c11 x190.1 (x190.1.length : Int) R  (fun r e => hR r (e0.trans (congrArg Sum.inr e))) n _ hg (weak_mem [] rfl rfl rfl (okW_cons (.inl (leV_refl _)) (okW_cons (ent_lst (E := TTaxiMove.E) _ false) (okW_cons (ent_own_frz (E := TRunwayMove.E) (ty := 48) (l' := x190.1) rfl (by first | rfl | (simp (disch := first | decide | assumption) only [mpushs_nil, mpushs_cons, mget_hd, mget_tl, mget_appW_o, mget_appW_n, mget_appW_e])) rfl) (okW_cons (.inl (leV_refl _)) (okW_cons (.inl (leV_refl _)) okW_nil))))) okB_nil')
theorem L3_0_ok (n : Nat) (x61 : Int) (c8 : Bool) (c10 : Int) (c11 : List TTaxiMove) (c47 : Int) {t : ρ3} (R : AV → Mem → Prop) (hR : ∀ r : ρ3, t = r → ∀ u m, Ans ((boolA r)) u m → R u m) (k : Nat) (x : Int × List TRunwayReady) (hx : iterO (fun y : Int × List TRunwayReady => S3_0 n x61 c8 c10 c11 c47 y.1 y.2) k x = some t) {s : St} (hw : Weak KK 112 0 s (h3_0 x61 c8 c10 (lstA TTaxiMove.E c11) (ownV TRunwayReady.E 90000 x.2) (lstA TTaxiMove.E c11) c47 x.1 [(90000, ownB TRunwayReady.E 40 x.2)])) : Tri pg KK 112 0 (.loop c3_0) s (q3_0 R ) :=
  L3_0 R  (σ := Nat × (Int × List TRunwayReady)) (fun z => iterO (fun y : Int × List TRunwayReady => S3_0 n x61 c8 c10 c11 c47 y.1 y.2) z.1 z.2 = some t) (fun z => x61) (fun z => c8) (fun z => c10) (fun z => (lstA TTaxiMove.E c11)) (fun z => (ownV TRunwayReady.E 90000 z.2.2)) (fun z => (lstA TTaxiMove.E c11)) (fun z => c47) (fun z => z.2.1) (fun z => [(90000, ownB TRunwayReady.E 40 z.2.2)]) (fun z => z.1) (by
    rintro ⟨k, y⟩ h
    cases k with
    | zero => exact (iterO_zero h).elim
    | succ k =>
      obtain ⟨u, h1, h2, h3⟩ := iterO_elim h
      exact B3_0_ok n x61 c8 c10 c11 c47 y.1 y.2 R  _ (fun r e => hR r (h3 _ e).symm)  (fun y' e s' hw => ⟨(k, y'), h2 _ e, Nat.lt_succ_self k, hw⟩) h1) (k, x) hx hw
theorem g3_ok (n : Nat) (a0 : List TTaxiStand) (a1 : List TTaxiAsk) (a2 : Int) (a3 : Int) {t : ρ3} (R : AV → Mem → Prop) (hR : ∀ r : ρ3, t = r → ∀ u m, Ans ((boolA r)) u m → R u m) : g3 n a0 a1 a2 a3 = some t → F3 (lstA TTaxiStand.E a0) (lstA TTaxiAsk.E a1) a2 a3 R := by
  unfold g3 F3
  refine bind_b fun x59 h59 => ?_
  refine imp (callQ_says (sg4 h59)) ?_
  refine imp exB_b ?_
  refine cond_b (fun _ => ?_) (fun _ => ?_)
  · exact fun hg => ret1 (hR _ (Option.some.inj hg).symm) (fz_sc _ _)
  · refine bind_b fun x61 h61 => ?_
    refine imp (callQ_says (sg5 h61)) ?_
    refine imp ex_i64_b ?_
    refine bind_b fun x62 h62 => ?_
    refine imp (callQ_says (sg5 h62)) ?_
    refine imp ex_i64_b ?_
    refine bind_b fun x63 h63 => ?_
    refine imp (callQ_says (sg7 h63)) ?_
    refine imp exA16_b ?_
    iterate 16 refine imp ex_i64_b ?_
    refine bind_b fun x78 h78 => ?_
    refine imp (callQ_says (sg6 h78)) ?_
    refine imp exT2_b ?_
    iterate 2 refine imp ex_i64_b ?_
    refine cond_b (fun _ => ?_) (fun _ => ?_)
    · exact fun hg => ret1 (hR _ (Option.some.inj hg).symm) (fz_sc _ _)
    · refine bind_b fun x137 h137 => ?_
      refine imp (callW_says (sg8 h137)) ?_
      refine imp exT2_b ?_
      refine imp ex_i64_b ?_
      refine cond_b (fun _ => ?_) (fun _ => ?_)
      · refine iq (intA (x137.1.length : Int)) rfl ?_
        refine imp ex_i64_b ?_
        exact fun hg => ret1 (hR _ (Option.some.inj hg).symm) (fz_sc _ _)
      · refine iq (intA (x137.1.length : Int)) rfl ?_
        refine imp ex_i64_b ?_
        exact fun hg => L3_0_ok n x61 false x137.2 x137.1 (x137.1.length : Int) R  hR n _ hg (weak_mem [(90000, 89500)] rfl rfl rfl (okW_cons (.inl (leV_refl _)) (okW_cons (.inl (leV_refl _)) (okW_cons (.inl (leV_refl _)) (okW_cons (ent_lst (E := TTaxiMove.E) _ false) (okW_cons ent_nils_own (okW_cons (ent_lst (E := TTaxiMove.E) _ false) (okW_cons (.inl (leV_refl _)) (okW_cons (.inl (leV_refl _)) okW_nil)))))))) (okB_cons okB_nil okB_nil'))
theorem sg3 {n : Nat} {a0 : List TTaxiStand} {a1 : List TTaxiAsk} {a2 : Int} {a3 : Int} {t : ρ3} (h : g3 n a0 a1 a2 a3 = some t) : Says pg KK.gl 3 [(lstA TTaxiStand.E a0), (lstA TTaxiAsk.E a1), (intA a2), (intA a3)] ((boolA t)) :=
  says_of_own (by first | rfl | simp [cleans, clean, encs_clean, En.cln]) (by first | rfl | simp [cleans, clean, encs_clean, En.cln]) (F3_own (lstA TTaxiStand.E a0) (lstA TTaxiAsk.E a1) a2 a3 _ (g3_ok n a0 a1 a2 a3 (Ans ((boolA t))) (fun r e u m h => by rw [e]; exact h) h))
end Go.Proofs.YtbnnndfcaehlpaaGreatDoor
