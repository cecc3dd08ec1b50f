/- Plain functional programs out of the program's functions, with proofs that the functions compute them; printed by wip/Ext.lean.txt. -/
import Derived.Test.YtjgokfofjkbdoaaX1E1
set_option linter.unusedVariables false
set_option linter.unusedSimpArgs false
set_option maxRecDepth 100000
namespace Go.Proofs.Ytjgokfofjkbdoaa
/- skyway/taxi.Waiting -/
theorem B9_0_ok (n : Nat) (a1 : Int) (c4 : Int) (a0 : List TTaxiMove) (c9 : Int) (v5 : Int) (v10 : Int) {t : (Int × Int) ⊕ ρ9} (R : AV → Mem → Prop) (N0 : St → Prop) (hR : ∀ r : ρ9, t = (.inr r) → ∀ u m, Ans ((intA r)) u m → R u m) (hN0 : ∀ y : Int × Int, t = (.inl y) → ∀ s' : St, Weak KK 28 0 s' (h9_0 a1 c4 y.1 (lstA TTaxiMove.E a0) c9 y.2 []) → N0 s') : S9_0 n a1 c4 a0 c9 v5 v10 = some t → B9_0 a1 c4 v5 (lstA TTaxiMove.E a0) c9 v10 [] R N0 := by
  unfold S9_0 B9_0
  refine cond_b (fun _ => ?_) (fun _ => ?_)
  · refine bind_b fun x83 h83 => ?_
    refine imp (opP_of (show _ = some ((AV.ept [(strA x83.Call), (intA x83.Push), (intA x83.Hold), (intA x83.Leave)] 0), []) from (idx_lst (E := TTaxiMove.E) rfl h83))) ?_
    refine imp (opP_of (show _ = some ((AV.agg [(strA x83.Call), (intA x83.Push), (intA x83.Hold), (intA x83.Leave)]), []) from rfl)) ?_
    refine imp exA4_b ?_
    refine imp exStr_b ?_
    refine imp ex_i64_b ?_
    refine imp ex_i64_b ?_
    refine imp ex_i64_b ?_
    refine cond_b (fun _ => ?_) (fun _ => ?_)
    · refine cond_b (fun _ => ?_) (fun _ => ?_)
      · exact fun hg => hN0 _ (Option.some.inj hg).symm _ (weak_mem [] rfl rfl rfl (okW_cons (.inl (leV_refl _)) (okW_cons (.inl (leV_refl _)) (okW_cons (.inl (leV_refl _)) (okW_cons (ent_lst (E := TTaxiMove.E) _ false) (okW_cons (.inl (leV_refl _)) (okW_cons (.inl (leV_refl _)) okW_nil)))))) okB_nil')
      · exact fun hg => hN0 _ (Option.some.inj hg).symm _ (weak_mem [] rfl rfl rfl (okW_cons (.inl (leV_refl _)) (okW_cons (.inl (leV_refl _)) (okW_cons (.inl (leV_refl _)) (okW_cons (ent_lst (E := TTaxiMove.E) _ false) (okW_cons (.inl (leV_refl _)) (okW_cons (.inl (leV_refl _)) okW_nil)))))) okB_nil')
    · exact fun hg => hN0 _ (Option.some.inj hg).symm _ (weak_mem [] rfl rfl rfl (okW_cons (.inl (leV_refl _)) (okW_cons (.inl (leV_refl _)) (okW_cons (.inl (leV_refl _)) (okW_cons (ent_lst (E := TTaxiMove.E) _ false) (okW_cons (.inl (leV_refl _)) (okW_cons (.inl (leV_refl _)) okW_nil)))))) okB_nil')
  · exact fun hg => ret1 (hR _ (Option.some.inj hg).symm) (fz_sc _ _)
theorem L9_0_ok (n : Nat) (a1 : Int) (c4 : Int) (a0 : List TTaxiMove) (c9 : Int) {t : ρ9} (R : AV → Mem → Prop) (hR : ∀ r : ρ9, t = r → ∀ u m, Ans ((intA r)) u m → R u m) (k : Nat) (x : Int × Int) (hx : iterO (fun y : Int × Int => S9_0 n a1 c4 a0 c9 y.1 y.2) k x = some t) {s : St} (hw : Weak KK 28 0 s (h9_0 a1 c4 x.1 (lstA TTaxiMove.E a0) c9 x.2 [])) : Tri Try.prog KK 28 0 (.loop c9_0) s (q9_0 R ) :=
  L9_0 R  (σ := Nat × (Int × Int)) (fun z => iterO (fun y : Int × Int => S9_0 n a1 c4 a0 c9 y.1 y.2) z.1 z.2 = some t) (fun z => a1) (fun z => c4) (fun z => z.2.1) (fun z => (lstA TTaxiMove.E a0)) (fun z => c9) (fun z => z.2.2) (fun z => []) (fun z => z.1) (by
    rintro ⟨k, y⟩ h
    cases k with
    | zero => exact (iterO_zero h).elim
    | succ k =>
      obtain ⟨u, h1, h2, h3⟩ := iterO_elim h
      exact B9_0_ok n a1 c4 a0 c9 y.1 y.2 R  _ (fun r e => hR r (h3 _ e).symm)  (fun y' e s' hw => ⟨(k, y'), h2 _ e, Nat.lt_succ_self k, hw⟩) h1) (k, x) hx hw
theorem g9_ok (n : Nat) (a0 : List TTaxiMove) (a1 : Int) {t : ρ9} (R : AV → Mem → Prop) (hR : ∀ r : ρ9, t = r → ∀ u m, Ans ((intA r)) u m → R u m) : g9 n a0 a1 = some t → F9 (lstA TTaxiMove.E a0) a1 R := by
  unfold g9 F9
  refine imp (opP_of (show _ = some ((intA (a0.length : Int)), []) from rfl)) ?_
  refine imp ex_i64_b ?_
  exact fun hg => L9_0_ok n a1 (0) a0 (a0.length : Int) R  hR n _ hg (weak_mem [] rfl rfl rfl (okW_cons (.inl (leV_refl _)) (okW_cons (.inl (leV_refl _)) (okW_cons (.inl (leV_refl _)) (okW_cons (ent_lst (E := TTaxiMove.E) _ false) (okW_cons (.inl (leV_refl _)) (okW_cons (.inl (leV_refl _)) okW_nil)))))) okB_nil')
theorem sg9 {n : Nat} {a0 : List TTaxiMove} {a1 : Int} {t : ρ9} (h : g9 n a0 a1 = some t) : Says Try.prog KK.gl 9 [(lstA TTaxiMove.E a0), (intA a1)] ((intA t)) :=
  says_of_own (by first | rfl | simp [cleans, clean, encs_clean, En.cln]) (by first | rfl | simp [cleans, clean, encs_clean, En.cln]) (F9_own (lstA TTaxiMove.E a0) a1 _ (g9_ok n a0 a1 (Ans ((intA t))) (fun r e u m h => by rw [e]; exact h) h))
/- skyway/taxi.Most -/
theorem B8_0_ok (n : Nat) (a0 : List TTaxiMove) (c2 : Int) (c10 : Int) (v4 : Int) (v5 : Int) (v11 : Int) {t : (Int × Int × Int) ⊕ ρ8} (R : AV → Mem → Prop) (N0 : St → Prop) (hR : ∀ r : ρ8, t = (.inr r) → ∀ u m, Ans ((AV.tup [(intA r.1), (intA r.2)])) u m → R u m) (hN0 : ∀ y : Int × Int × Int, t = (.inl y) → ∀ s' : St, Weak KK 43 0 s' (h8_0 (lstA TTaxiMove.E a0) c2 c2 y.1 y.2.1 (lstA TTaxiMove.E a0) c10 y.2.2 []) → N0 s') : S8_0 n a0 c2 c10 v4 v5 v11 = some t → B8_0 (lstA TTaxiMove.E a0) c2 c2 v4 v5 (lstA TTaxiMove.E a0) c10 v11 [] R N0 := by
  unfold S8_0 B8_0
  refine cond_b (fun _ => ?_) (fun _ => ?_)
  · refine bind_b fun x82 h82 => ?_
    refine imp (opP_of (show _ = some ((AV.ept [(strA x82.Call), (intA x82.Push), (intA x82.Hold), (intA x82.Leave)] 0), []) from (idx_lst (E := TTaxiMove.E) rfl h82))) ?_
    refine imp (opP_of (show _ = some ((AV.agg [(strA x82.Call), (intA x82.Push), (intA x82.Hold), (intA x82.Leave)]), []) from rfl)) ?_
    refine imp exA4_b ?_
    refine imp exStr_b ?_
    refine imp ex_i64_b ?_
    refine imp ex_i64_b ?_
    refine imp ex_i64_b ?_
    refine bind_b fun x84 h84 => ?_
    refine imp (callQ_says (sg9 h84)) ?_
    refine imp ex_i64_b ?_
    refine cond_b (fun _ => ?_) (fun _ => ?_)
    · exact fun hg => hN0 _ (Option.some.inj hg).symm _ (weak_mem [] rfl rfl rfl (okW_cons (ent_lst (E := TTaxiMove.E) _ false) (okW_cons (.inl (leV_refl _)) (okW_cons (.inl (leV_refl _)) (okW_cons (.inl (leV_refl _)) (okW_cons (.inl (leV_refl _)) (okW_cons (ent_lst (E := TTaxiMove.E) _ false) (okW_cons (.inl (leV_refl _)) (okW_cons (.inl (leV_refl _)) okW_nil)))))))) okB_nil')
    · refine cond_b (fun _ => ?_) (fun _ => ?_)
      · refine cond_b (fun _ => ?_) (fun _ => ?_)
        · refine cond_b (fun _ => ?_) (fun _ => ?_)
          · exact fun hg => hN0 _ (Option.some.inj hg).symm _ (weak_mem [] rfl rfl rfl (okW_cons (ent_lst (E := TTaxiMove.E) _ false) (okW_cons (.inl (leV_refl _)) (okW_cons (.inl (leV_refl _)) (okW_cons (.inl (leV_refl _)) (okW_cons (.inl (leV_refl _)) (okW_cons (ent_lst (E := TTaxiMove.E) _ false) (okW_cons (.inl (leV_refl _)) (okW_cons (.inl (leV_refl _)) okW_nil)))))))) okB_nil')
          · exact fun hg => hN0 _ (Option.some.inj hg).symm _ (weak_mem [] rfl rfl rfl (okW_cons (ent_lst (E := TTaxiMove.E) _ false) (okW_cons (.inl (leV_refl _)) (okW_cons (.inl (leV_refl _)) (okW_cons (.inl (leV_refl _)) (okW_cons (.inl (leV_refl _)) (okW_cons (ent_lst (E := TTaxiMove.E) _ false) (okW_cons (.inl (leV_refl _)) (okW_cons (.inl (leV_refl _)) okW_nil)))))))) okB_nil')
        · exact fun hg => hN0 _ (Option.some.inj hg).symm _ (weak_mem [] rfl rfl rfl (okW_cons (ent_lst (E := TTaxiMove.E) _ false) (okW_cons (.inl (leV_refl _)) (okW_cons (.inl (leV_refl _)) (okW_cons (.inl (leV_refl _)) (okW_cons (.inl (leV_refl _)) (okW_cons (ent_lst (E := TTaxiMove.E) _ false) (okW_cons (.inl (leV_refl _)) (okW_cons (.inl (leV_refl _)) okW_nil)))))))) okB_nil')
      · exact fun hg => hN0 _ (Option.some.inj hg).symm _ (weak_mem [] rfl rfl rfl (okW_cons (ent_lst (E := TTaxiMove.E) _ false) (okW_cons (.inl (leV_refl _)) (okW_cons (.inl (leV_refl _)) (okW_cons (.inl (leV_refl _)) (okW_cons (.inl (leV_refl _)) (okW_cons (ent_lst (E := TTaxiMove.E) _ false) (okW_cons (.inl (leV_refl _)) (okW_cons (.inl (leV_refl _)) okW_nil)))))))) okB_nil')
  · exact fun hg => retN rfl (hR _ (Option.some.inj hg).symm) (fzL_cons (fz_sc _ _) (fzL_cons (fz_sc _ _) fzL_nil))
theorem L8_0_ok (n : Nat) (a0 : List TTaxiMove) (c2 : Int) (c10 : Int) {t : ρ8} (R : AV → Mem → Prop) (hR : ∀ r : ρ8, t = r → ∀ u m, Ans ((AV.tup [(intA r.1), (intA r.2)])) u m → R u m) (k : Nat) (x : Int × Int × Int) (hx : iterO (fun y : Int × Int × Int => S8_0 n a0 c2 c10 y.1 y.2.1 y.2.2) k x = some t) {s : St} (hw : Weak KK 43 0 s (h8_0 (lstA TTaxiMove.E a0) c2 c2 x.1 x.2.1 (lstA TTaxiMove.E a0) c10 x.2.2 [])) : Tri Try.prog KK 43 0 (.loop c8_0) s (q8_0 R ) :=
  L8_0 R  (σ := Nat × (Int × Int × Int)) (fun z => iterO (fun y : Int × Int × Int => S8_0 n a0 c2 c10 y.1 y.2.1 y.2.2) z.1 z.2 = some t) (fun z => (lstA TTaxiMove.E a0)) (fun z => c2) (fun z => c2) (fun z => z.2.1) (fun z => z.2.2.1) (fun z => (lstA TTaxiMove.E a0)) (fun z => c10) (fun z => z.2.2.2) (fun z => []) (fun z => z.1) (by
    rintro ⟨k, y⟩ h
    cases k with
    | zero => exact (iterO_zero h).elim
    | succ k =>
      obtain ⟨u, h1, h2, h3⟩ := iterO_elim h
      exact B8_0_ok n a0 c2 c10 y.1 y.2.1 y.2.2 R  _ (fun r e => hR r (h3 _ e).symm)  (fun y' e s' hw => ⟨(k, y'), h2 _ e, Nat.lt_succ_self k, hw⟩) h1) (k, x) hx hw
theorem g8_ok (n : Nat) (a0 : List TTaxiMove) {t : ρ8} (R : AV → Mem → Prop) (hR : ∀ r : ρ8, t = r → ∀ u m, Ans ((AV.tup [(intA r.1), (intA r.2)])) u m → R u m) : g8 n a0 = some t → F8 (lstA TTaxiMove.E a0) R := by
  unfold g8 F8
  refine imp (opP_of (show _ = some ((intA (a0.length : Int)), []) from rfl)) ?_
  refine imp ex_i64_b ?_
  exact fun hg => L8_0_ok n a0 (0) (a0.length : Int) R  hR n _ hg (weak_mem [] rfl rfl rfl (okW_cons (ent_lst (E := TTaxiMove.E) _ false) (okW_cons (.inl (leV_refl _)) (okW_cons (.inl (leV_refl _)) (okW_cons (.inl (leV_refl _)) (okW_cons (.inl (leV_refl _)) (okW_cons (ent_lst (E := TTaxiMove.E) _ false) (okW_cons (.inl (leV_refl _)) (okW_cons (.inl (leV_refl _)) okW_nil)))))))) okB_nil')
theorem sg8 {n : Nat} {a0 : List TTaxiMove} {t : ρ8} (h : g8 n a0 = some t) : Says Try.prog KK.gl 8 [(lstA TTaxiMove.E a0)] ((AV.tup [(intA t.1), (intA t.2)])) :=
  says_of_own (by first | rfl | simp [cleans, clean, encs_clean, En.cln]) (by first | rfl | simp [cleans, clean, encs_clean, En.cln]) (F8_own (lstA TTaxiMove.E a0) _ (g8_ok n a0 (Ans ((AV.tup [(intA t.1), (intA t.2)]))) (fun r e u m h => by rw [e]; exact h) h))
/- skyway/skywaykeep3.TaxiOrders -/
theorem B3_0_ok (n : Nat) (a2 : Int) (a3 : Int) (c8 : Bool) (c9 : List TTaxiMove) (c11 : List TTaxiMove) (c57 : Int) (v58 : Int) {t : (Int) ⊕ ρ3} (R : AV → Mem → Prop) (N0 : St → Prop) (hR : ∀ r : ρ3, t = (.inr r) → ∀ u m, Ans ((boolA r)) u m → R u m) (hN0 : ∀ y : Int, t = (.inl y) → ∀ s' : St, Weak KK 184 0 s' (h3_0 a2 a3 c8 (lstA TTaxiMove.E c9) (lstA TTaxiMove.E c11) c57 y []) → N0 s') : S3_0 n a2 a3 c8 c9 c11 c57 v58 = some t → B3_0 a2 a3 c8 (lstA TTaxiMove.E c9) (lstA TTaxiMove.E c11) c57 v58 [] R N0 := by
  unfold S3_0 B3_0
  refine cond_b (fun _ => ?_) (fun _ => ?_)
  · refine bind_b fun x66 h66 => ?_
    refine imp (opP_of (show _ = some ((AV.ept [(strA x66.Call), (intA x66.Push), (intA x66.Hold), (intA x66.Leave)] 0), []) from (idx_lst (E := TTaxiMove.E) rfl h66))) ?_
    refine imp (opP_of (show _ = some ((AV.ept [(strA x66.Call), (intA x66.Push), (intA x66.Hold), (intA x66.Leave)] 0), []) from rfl)) ?_
    refine imp (opP_of (show _ = some ((strA x66.Call), []) from rfl)) ?_
    refine imp exStr_b ?_
    refine bind_b fun x67 h67 => ?_
    refine imp (opP_of (show _ = some ((AV.ept [(strA x67.Call), (intA x67.Push), (intA x67.Hold), (intA x67.Leave)] 0), []) from (idx_lst (E := TTaxiMove.E) rfl h67))) ?_
    refine imp (opP_of (show _ = some ((AV.ept [(strA x67.Call), (intA x67.Push), (intA x67.Hold), (intA x67.Leave)] 0), []) from rfl)) ?_
    refine imp (opP_of (show _ = some ((strA x67.Call), []) from rfl)) ?_
    refine imp exStr_b ?_
    refine cond_b (fun _ => ?_) (fun _ => ?_)
    · exact fun hg => ret1 (hR _ (Option.some.inj hg).symm) (fz_sc _ _)
    · refine bind_b fun x68 h68 => ?_
      refine imp (opP_of (show _ = some ((AV.ept [(strA x68.Call), (intA x68.Push), (intA x68.Hold), (intA x68.Leave)] 0), []) from (idx_lst (E := TTaxiMove.E) rfl h68))) ?_
      refine imp (opP_of (show _ = some ((AV.ept [(strA x68.Call), (intA x68.Push), (intA x68.Hold), (intA x68.Leave)] 3), []) from rfl)) ?_
      refine imp (opP_of (show _ = some ((intA x68.Leave), []) from rfl)) ?_
      refine imp ex_i64_b ?_
      refine bind_b fun x69 h69 => ?_
      refine imp (opP_of (show _ = some ((AV.ept [(strA x69.Call), (intA x69.Push), (intA x69.Hold), (intA x69.Leave)] 0), []) from (idx_lst (E := TTaxiMove.E) rfl h69))) ?_
      refine imp (opP_of (show _ = some ((AV.ept [(strA x69.Call), (intA x69.Push), (intA x69.Hold), (intA x69.Leave)] 3), []) from rfl)) ?_
      refine imp (opP_of (show _ = some ((intA x69.Leave), []) from rfl)) ?_
      refine imp ex_i64_b ?_
      refine cond_b (fun _ => ?_) (fun _ => ?_)
      · exact fun hg => ret1 (hR _ (Option.some.inj hg).symm) (fz_sc _ _)
      · refine bind_b fun x70 h70 => ?_
        refine imp (opP_of (show _ = some ((AV.ept [(strA x70.Call), (intA x70.Push), (intA x70.Hold), (intA x70.Leave)] 0), []) from (idx_lst (E := TTaxiMove.E) rfl h70))) ?_
        refine imp (opP_of (show _ = some ((AV.ept [(strA x70.Call), (intA x70.Push), (intA x70.Hold), (intA x70.Leave)] 1), []) from rfl)) ?_
        refine imp (opP_of (show _ = some ((intA x70.Push), []) from rfl)) ?_
        refine imp ex_i64_b ?_
        refine bind_b fun x71 h71 => ?_
        refine imp (opP_of (show _ = some ((AV.ept [(strA x71.Call), (intA x71.Push), (intA x71.Hold), (intA x71.Leave)] 0), []) from (idx_lst (E := TTaxiMove.E) rfl h71))) ?_
        refine imp (opP_of (show _ = some ((AV.ept [(strA x71.Call), (intA x71.Push), (intA x71.Hold), (intA x71.Leave)] 1), []) from rfl)) ?_
        refine imp (opP_of (show _ = some ((intA x71.Push), []) from rfl)) ?_
        refine imp ex_i64_b ?_
        refine cond_b (fun _ => ?_) (fun _ => ?_)
        · exact fun hg => ret1 (hR _ (Option.some.inj hg).symm) (fz_sc _ _)
        · refine bind_b fun x72 h72 => ?_
          refine imp (opP_of (show _ = some ((AV.ept [(strA x72.Call), (intA x72.Push), (intA x72.Hold), (intA x72.Leave)] 0), []) from (idx_lst (E := TTaxiMove.E) rfl h72))) ?_
          refine imp (opP_of (show _ = some ((AV.ept [(strA x72.Call), (intA x72.Push), (intA x72.Hold), (intA x72.Leave)] 2), []) from rfl)) ?_
          refine imp (opP_of (show _ = some ((intA x72.Hold), []) from rfl)) ?_
          refine imp ex_i64_b ?_
          refine bind_b fun x73 h73 => ?_
          refine imp (opP_of (show _ = some ((AV.ept [(strA x73.Call), (intA x73.Push), (intA x73.Hold), (intA x73.Leave)] 0), []) from (idx_lst (E := TTaxiMove.E) rfl h73))) ?_
          refine imp (opP_of (show _ = some ((AV.ept [(strA x73.Call), (intA x73.Push), (intA x73.Hold), (intA x73.Leave)] 1), []) from rfl)) ?_
          refine imp (opP_of (show _ = some ((intA x73.Push), []) from rfl)) ?_
          refine imp ex_i64_b ?_
          refine bind_b fun x74 h74 => ?_
          refine imp (opP_of (show _ = some ((AV.ept [(strA x74.Call), (intA x74.Push), (intA x74.Hold), (intA x74.Leave)] 0), []) from (idx_lst (E := TTaxiMove.E) rfl h74))) ?_
          refine imp (opP_of (show _ = some ((AV.ept [(strA x74.Call), (intA x74.Push), (intA x74.Hold), (intA x74.Leave)] 2), []) from rfl)) ?_
          refine imp (opP_of (show _ = some ((intA x74.Hold), []) from rfl)) ?_
          refine imp ex_i64_b ?_
          refine bind_b fun x75 h75 => ?_
          refine imp (opP_of (show _ = some ((AV.ept [(strA x75.Call), (intA x75.Push), (intA x75.Hold), (intA x75.Leave)] 0), []) from (idx_lst (E := TTaxiMove.E) rfl h75))) ?_
          refine imp (opP_of (show _ = some ((AV.ept [(strA x75.Call), (intA x75.Push), (intA x75.Hold), (intA x75.Leave)] 1), []) from rfl)) ?_
          refine imp (opP_of (show _ = some ((intA x75.Push), []) from rfl)) ?_
          refine imp ex_i64_b ?_
          refine cond_b (fun _ => ?_) (fun _ => ?_)
          · exact fun hg => ret1 (hR _ (Option.some.inj hg).symm) (fz_sc _ _)
          · refine bind_b fun x76 h76 => ?_
            refine imp (opP_of (show _ = some ((AV.ept [(strA x76.Call), (intA x76.Push), (intA x76.Hold), (intA x76.Leave)] 0), []) from (idx_lst (E := TTaxiMove.E) rfl h76))) ?_
            refine imp (opP_of (show _ = some ((AV.ept [(strA x76.Call), (intA x76.Push), (intA x76.Hold), (intA x76.Leave)] 3), []) from rfl)) ?_
            refine imp (opP_of (show _ = some ((intA x76.Leave), []) from rfl)) ?_
            refine imp ex_i64_b ?_
            refine bind_b fun x77 h77 => ?_
            refine imp (opP_of (show _ = some ((AV.ept [(strA x77.Call), (intA x77.Push), (intA x77.Hold), (intA x77.Leave)] 0), []) from (idx_lst (E := TTaxiMove.E) rfl h77))) ?_
            refine imp (opP_of (show _ = some ((AV.ept [(strA x77.Call), (intA x77.Push), (intA x77.Hold), (intA x77.Leave)] 2), []) from rfl)) ?_
            refine imp (opP_of (show _ = some ((intA x77.Hold), []) from rfl)) ?_
            refine imp ex_i64_b ?_
            refine cond_b (fun _ => ?_) (fun _ => ?_)
            · exact fun hg => ret1 (hR _ (Option.some.inj hg).symm) (fz_sc _ _)
            · refine bind_b fun x78 h78 => ?_
              refine imp (opP_of (show _ = some ((AV.ept [(strA x78.Call), (intA x78.Push), (intA x78.Hold), (intA x78.Leave)] 0), []) from (idx_lst (E := TTaxiMove.E) rfl h78))) ?_
              refine imp (opP_of (show _ = some ((AV.ept [(strA x78.Call), (intA x78.Push), (intA x78.Hold), (intA x78.Leave)] 3), []) from rfl)) ?_
              refine imp (opP_of (show _ = some ((intA x78.Leave), []) from rfl)) ?_
              refine imp ex_i64_b ?_
              refine bind_b fun x79 h79 => ?_
              refine imp (opP_of (show _ = some ((AV.ept [(strA x79.Call), (intA x79.Push), (intA x79.Hold), (intA x79.Leave)] 0), []) from (idx_lst (E := TTaxiMove.E) rfl h79))) ?_
              refine imp (opP_of (show _ = some ((AV.ept [(strA x79.Call), (intA x79.Push), (intA x79.Hold), (intA x79.Leave)] 2), []) from rfl)) ?_
              refine imp (opP_of (show _ = some ((intA x79.Hold), []) from rfl)) ?_
              refine imp ex_i64_b ?_
              refine imp (opP_of (show _ = some ((intA (if (0) > a3 then (0) else a3)), []) from (by kernel_rfl))) ?_
              refine imp ex_i64_b ?_
              refine cond_b (fun _ => ?_) (fun _ => ?_)
              · exact fun hg => ret1 (hR _ (Option.some.inj hg).symm) (fz_sc _ _)
              · refine cond_b (fun _ => ?_) (fun _ => ?_)
                · refine bind_b fun x80 h80 => ?_
                  refine imp (opP_of (show _ = some ((AV.ept [(strA x80.Call), (intA x80.Push), (intA x80.Hold), (intA x80.Leave)] 0), []) from (idx_lst (E := TTaxiMove.E) rfl h80))) ?_
                  refine imp (opP_of (show _ = some ((AV.ept [(strA x80.Call), (intA x80.Push), (intA x80.Hold), (intA x80.Leave)] 3), []) from rfl)) ?_
                  refine imp (opP_of (show _ = some ((intA x80.Leave), []) from rfl)) ?_
                  refine imp ex_i64_b ?_
                  refine bind_b fun x81 h81 => ?_
                  refine imp (opP_of (show _ = some ((AV.ept [(strA x81.Call), (intA x81.Push), (intA x81.Hold), (intA x81.Leave)] 0), []) from (idx_lst (E := TTaxiMove.E) rfl h81))) ?_
                  refine imp (opP_of (show _ = some ((AV.ept [(strA x81.Call), (intA x81.Push), (intA x81.Hold), (intA x81.Leave)] 3), []) from rfl)) ?_
                  refine imp (opP_of (show _ = some ((intA x81.Leave), []) from rfl)) ?_
                  refine imp ex_i64_b ?_
                  refine cond_b (fun _ => ?_) (fun _ => ?_)
                  · exact fun hg => ret1 (hR _ (Option.some.inj hg).symm) (fz_sc _ _)
                  · exact fun hg => hN0 _ (Option.some.inj hg).symm _ (weak_mem [] rfl rfl rfl (okW_cons (.inl (leV_refl _)) (okW_cons (.inl (leV_refl _)) (okW_cons (.inl (leV_refl _)) (okW_cons (ent_lst (E := TTaxiMove.E) _ false) (okW_cons (ent_lst (E := TTaxiMove.E) _ false) (okW_cons (.inl (leV_refl _)) (okW_cons (.inl (leV_refl _)) okW_nil))))))) okB_nil')
                · exact fun hg => hN0 _ (Option.some.inj hg).symm _ (weak_mem [] rfl rfl rfl (okW_cons (.inl (leV_refl _)) (okW_cons (.inl (leV_refl _)) (okW_cons (.inl (leV_refl _)) (okW_cons (ent_lst (E := TTaxiMove.E) _ false) (okW_cons (ent_lst (E := TTaxiMove.E) _ false) (okW_cons (.inl (leV_refl _)) (okW_cons (.inl (leV_refl _)) okW_nil))))))) okB_nil')
  · refine bind_b fun x85 h85 => ?_
    refine imp (callQ_says (sg8 h85)) ?_
    refine imp exT2_b ?_
    refine imp ex_i64_b ?_
    refine imp ex_i64_b ?_
    refine bind_b fun x86 h86 => ?_
    refine imp (callQ_says (sg8 h86)) ?_
    refine imp exT2_b ?_
    refine imp ex_i64_b ?_
    refine imp ex_i64_b ?_
    exact fun hg => ret1 (hR _ (Option.some.inj hg).symm) (fz_sc _ _)
theorem L3_0_ok (n : Nat) (a2 : Int) (a3 : Int) (c8 : Bool) (c9 : List TTaxiMove) (c11 : List TTaxiMove) (c57 : Int) {t : ρ3} (R : AV → Mem → Prop) (hR : ∀ r : ρ3, t = r → ∀ u m, Ans ((boolA r)) u m → R u m) (k : Nat) (x : Int) (hx : iterO (fun y : Int => S3_0 n a2 a3 c8 c9 c11 c57 y) k x = some t) {s : St} (hw : Weak KK 184 0 s (h3_0 a2 a3 c8 (lstA TTaxiMove.E c9) (lstA TTaxiMove.E c11) c57 x [])) : Tri Try.prog KK 184 0 (.loop c3_0) s (q3_0 R ) :=
  L3_0 R  (σ := Nat × (Int)) (fun z => iterO (fun y : Int => S3_0 n a2 a3 c8 c9 c11 c57 y) z.1 z.2 = some t) (fun z => a2) (fun z => a3) (fun z => c8) (fun z => (lstA TTaxiMove.E c9)) (fun z => (lstA TTaxiMove.E c11)) (fun z => c57) (fun z => z.2) (fun z => []) (fun z => z.1) (by
    rintro ⟨k, y⟩ h
    cases k with
    | zero => exact (iterO_zero h).elim
    | succ k =>
      obtain ⟨u, h1, h2, h3⟩ := iterO_elim h
      exact B3_0_ok n a2 a3 c8 c9 c11 c57 y R  _ (fun r e => hR r (h3 _ e).symm)  (fun y' e s' hw => ⟨(k, y'), h2 _ e, Nat.lt_succ_self k, hw⟩) h1) (k, x) hx hw
theorem g3_ok (n : Nat) (a0 : List TTaxiStand) (a1 : List TTaxiAsk) (a2 : Int) (a3 : Int) {t : ρ3} (R : AV → Mem → Prop) (hR : ∀ r : ρ3, t = r → ∀ u m, Ans ((boolA r)) u m → R u m) : g3 n a0 a1 a2 a3 = some t → F3 (lstA TTaxiStand.E a0) (lstA TTaxiAsk.E a1) a2 a3 R := by
  unfold g3 F3
  refine bind_b fun x0 h0 => ?_
  refine imp (callQ_says (sg5 h0)) ?_
  refine imp exB_b ?_
  refine cond_b (fun _ => ?_) (fun _ => ?_)
  · exact fun hg => ret1 (hR _ (Option.some.inj hg).symm) (fz_sc _ _)
  · refine bind_b fun x37 h37 => ?_
    refine imp (callW_D (show PureD _ _ _ _ _ _ (AV.tup [(ownV TTaxiMove.E 69 x37.1), (intA x37.2)]) [(69, ownB TTaxiMove.E 31 x37.1)] from mg6C h37)) ?_
    refine imp exT2_b ?_
    refine imp ex_i64_b ?_
    refine bind_b fun x58 h58 => ?_
    refine imp (callW_D (show PureD _ _ _ _ _ _ (AV.tup [(ownV TTaxiMove.E 142 x58.1), (intA x58.2)]) [(142, ownB TTaxiMove.E 31 x58.1)] from mg7C h58)) ?_
    refine imp exT2_b ?_
    refine imp ex_i64_b ?_
    refine cond_b (fun _ => ?_) (fun _ => ?_)
    · refine imp (opP_of (show _ = some ((intA (x58.1.length : Int)), []) from len_own)) ?_
      refine imp ex_i64_b ?_
      exact fun hg => ret1 (hR _ (Option.some.inj hg).symm) (fz_sc _ _)
    · refine cond_b (fun _ => ?_) (fun _ => ?_)
      · refine imp (opP_of (show _ = some ((intA (x58.1.length : Int)), []) from len_own)) ?_
        refine imp ex_i64_b ?_
        exact fun hg => ret1 (hR _ (Option.some.inj hg).symm) (fz_sc _ _)
      · refine imp (opP_of (show _ = some ((intA (x37.1.length : Int)), []) from len_own)) ?_
        refine imp ex_i64_b ?_
        refine imp (opP_of (show _ = some ((intA (x58.1.length : Int)), []) from len_own)) ?_
        refine imp ex_i64_b ?_
        refine cond_b (fun _ => ?_) (fun _ => ?_)
        · exact fun hg => ret1 (hR _ (Option.some.inj hg).symm) (fz_sc _ _)
        · refine imp (opP_of (show _ = some ((intA (x37.1.length : Int)), []) from len_own)) ?_
          refine imp ex_i64_b ?_
          refine imp (opP_of (show _ = some ((intA (a1.length : Int)), []) from rfl)) ?_
          refine imp ex_i64_b ?_
          refine cond_b (fun _ => ?_) (fun _ => ?_)
          · exact fun hg => ret1 (hR _ (Option.some.inj hg).symm) (fz_sc _ _)
          · refine imp (opP_of (show _ = some ((intA (x37.1.length : Int)), []) from len_own)) ?_
            refine imp ex_i64_b ?_
            exact fun hg => L3_0_ok n a2 a3 false x37.1 x58.1 (x37.1.length : Int) R  hR n _ hg (weak_mem [] rfl rfl rfl (okW_cons (.inl (leV_refl _)) (okW_cons (.inl (leV_refl _)) (okW_cons (.inl (leV_refl _)) (okW_cons (ent_own_frz (E := TTaxiMove.E) (ty := 31) (l' := x37.1) rfl (by first | rfl | (simp (disch := decide) only [mpushs_nil, mpushs_cons, mget_hd, mget_tl, mget_appW_o, mget_appW_n])) rfl) (okW_cons (ent_own_frz (E := TTaxiMove.E) (ty := 31) (l' := x58.1) rfl (by first | rfl | (simp (disch := decide) only [mpushs_nil, mpushs_cons, mget_hd, mget_tl, mget_appW_o, mget_appW_n])) rfl) (okW_cons (.inl (leV_refl _)) (okW_cons (.inl (leV_refl _)) okW_nil))))))) okB_nil')
theorem sg3 {n : Nat} {a0 : List TTaxiStand} {a1 : List TTaxiAsk} {a2 : Int} {a3 : Int} {t : ρ3} (h : g3 n a0 a1 a2 a3 = some t) : Says Try.prog KK.gl 3 [(lstA TTaxiStand.E a0), (lstA TTaxiAsk.E a1), (intA a2), (intA a3)] ((boolA t)) :=
  says_of_own (by first | rfl | simp [cleans, clean, encs_clean, En.cln]) (by first | rfl | simp [cleans, clean, encs_clean, En.cln]) (F3_own (lstA TTaxiStand.E a0) (lstA TTaxiAsk.E a1) a2 a3 _ (g3_ok n a0 a1 a2 a3 (Ans ((boolA t))) (fun r e u m h => by rw [e]; exact h) h))
end Go.Proofs.Ytjgokfofjkbdoaa
