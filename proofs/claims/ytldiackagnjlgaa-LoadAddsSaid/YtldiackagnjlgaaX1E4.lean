/- Plain functional programs out of the program's functions, with proofs that the functions compute them; printed by wip/Ext.lean.txt. -/
import Derived.Test.YtldiackagnjlgaaX1E3
import Derived.Test.YtldiackagnjlgaaSvH
set_option linter.unusedVariables false
set_option linter.unusedSimpArgs false
set_option maxRecDepth 100000
set_option maxHeartbeats 4000000
namespace Go.Proofs.Ytldiackagnjlgaa
/- skyway/sector.Path -/
theorem g11_ok (n : Nat) (a0 : List TSector) (a1 : List TTubeNode) {t : ρ11} (R : AV → Mem → Prop) (hR : ∀ r : ρ11, t = r → ∀ u m, Ans ((AV.tup [(lstA TSectorVisit.E r.1), (intA r.2)])) u m → R u m) : g11 n a0 a1 = some t → F11 (lstA TSector.E a0) (lstA TTubeNode.E a1) R := by
  unfold g11 F11
  refine bind_b fun x139 h139 => ?_
  refine imp (callQ_says (sg24 h139)) ?_
  refine imp ex_i64_b ?_
  refine cond_b (fun _ => ?_) (fun _ => ?_)
  · exact fun hg => retN rfl (hR _ (Option.some.inj hg).symm) (fzL_cons (fz_nils (E := TSectorVisit.E) _) (fzL_cons (fz_sc _ _) fzL_nil))
  · refine bind_b fun x140 h140 => ?_
    refine imp (callQ_says (sg28 h140)) ?_
    refine imp ex_i64_b ?_
    refine cond_b (fun _ => ?_) (fun _ => ?_)
    · exact fun hg => retN rfl (hR _ (Option.some.inj hg).symm) (fzL_cons (fz_nils (E := TSectorVisit.E) _) (fzL_cons (fz_sc _ _) fzL_nil))
    · refine imp (opP_of (show _ = some ((intA (a1.length : Int)), []) from rfl)) ?_
      refine imp ex_i64_b ?_
      refine bind_b fun x141 h141 => ?_
      refine imp (opP_of (show _ = some ((AV.ept [(intA x141.Node_Time), (intA x141.Node_At_X), (intA x141.Node_At_Y), (intA x141.Node_Height), (intA x141.Radius), (intA x141.Band)] 0), []) from (idx_lst (E := TTubeNode.E) rfl h141))) ?_
      refine imp (opP_of (show _ = some ((AV.ept [(intA x141.Node_Time), (intA x141.Node_At_X), (intA x141.Node_At_Y), (intA x141.Node_Height), (intA x141.Radius), (intA x141.Band)] 0), []) from rfl)) ?_
      refine imp (opP_of (show _ = some ((AV.ept [(intA x141.Node_Time), (intA x141.Node_At_X), (intA x141.Node_At_Y), (intA x141.Node_Height), (intA x141.Radius), (intA x141.Band)] 0), []) from rfl)) ?_
      refine imp (opP_of (show _ = some ((intA x141.Node_Time), []) from rfl)) ?_
      refine imp ex_i64_b ?_
      refine bind_b fun x142 h142 => ?_
      refine imp (opP_of (show _ = some ((AV.ept [(intA x142.Node_Time), (intA x142.Node_At_X), (intA x142.Node_At_Y), (intA x142.Node_Height), (intA x142.Radius), (intA x142.Band)] 0), []) from (idx_lst (E := TTubeNode.E) rfl h142))) ?_
      refine imp (opP_of (show _ = some ((AV.ept [(intA x142.Node_Time), (intA x142.Node_At_X), (intA x142.Node_At_Y), (intA x142.Node_Height), (intA x142.Radius), (intA x142.Band)] 0), []) from rfl)) ?_
      refine imp (opP_of (show _ = some ((AV.ept [(intA x142.Node_Time), (intA x142.Node_At_X), (intA x142.Node_At_Y), (intA x142.Node_Height), (intA x142.Radius), (intA x142.Band)] 0), []) from rfl)) ?_
      refine imp (opP_of (show _ = some ((intA x142.Node_Time), []) from rfl)) ?_
      refine imp ex_i64_b ?_
      refine cond_b (fun _ => ?_) (fun _ => ?_)
      · exact fun hg => retN rfl (hR _ (Option.some.inj hg).symm) (fzL_cons (fz_nils (E := TSectorVisit.E) _) (fzL_cons (fz_sc _ _) fzL_nil))
      · refine bind_b fun x143 h143 => ?_
        refine imp (callQ_says (sg29 h143)) ?_
        exact fun hg => retN rfl (hR _ (Option.some.inj hg).symm) (fzL_cons (fz_lst (E := TSectorVisit.E) _ _ false) (fzL_cons (fz_sc _ _) fzL_nil))
theorem sg11 {n : Nat} {a0 : List TSector} {a1 : List TTubeNode} {t : ρ11} (h : g11 n a0 a1 = some t) : Says Try.prog KK.gl 11 [(lstA TSector.E a0), (lstA TTubeNode.E a1)] ((AV.tup [(lstA TSectorVisit.E t.1), (intA t.2)])) :=
  says_of_own (by first | rfl | simp [cleans, clean, encs_clean, En.cln]) (by first | rfl | simp [cleans, clean, encs_clean, En.cln]) (F11_own (lstA TSector.E a0) (lstA TTubeNode.E a1) _ (g11_ok n a0 a1 (Ans ((AV.tup [(lstA TSectorVisit.E t.1), (intA t.2)]))) (fun r e u m h => by rw [e]; exact h) h))
/- skyway/load.check -/
theorem B40_0_ok (n : Nat) (c4 : Int) (a1 : List (List TTubeNode)) (c18 : Int) (v19 : Int) {t : (Int) ⊕ ρ40} (R : AV → Mem → Prop) (N0 : St → Prop) (hR : ∀ r : ρ40, t = (.inr r) → ∀ u m, Ans ((intA r)) u m → R u m) (hN0 : ∀ y : Int, t = (.inl y) → ∀ s' : St, Weak KK 29 0 s' (h40_0 c4 (lstA (lstE TTubeNode.E) a1) c18 y []) → N0 s') : S40_0 n c4 a1 c18 v19 = some t → B40_0 c4 (lstA (lstE TTubeNode.E) a1) c18 v19 [] R N0 := by
  unfold S40_0 B40_0
  refine cond_b (fun _ => ?_) (fun _ => ?_)
  · refine bind_b fun x146 h146 => ?_
    refine imp (opP_of (show _ = some ((AV.ept [(lstA TTubeNode.E x146)] 0), []) from (idx_lst (E := (lstE TTubeNode.E)) rfl h146))) ?_
    refine imp (opP_of (show _ = some ((lstA TTubeNode.E x146), []) from rfl)) ?_
    refine bind_b fun x147 h147 => ?_
    refine imp (callQ_says (sg28 h147)) ?_
    refine imp ex_i64_b ?_
    refine cond_b (fun _ => ?_) (fun _ => ?_)
    · exact fun hg => ret1 (hR _ (Option.some.inj hg).symm) (fz_sc _ _)
    · exact fun hg => hN0 _ (Option.some.inj hg).symm _ (weak_mem [] rfl rfl rfl (okW_cons (.inl (leV_refl _)) (okW_cons (ent_lst (E := (lstE TTubeNode.E)) _ false) (okW_cons (.inl (leV_refl _)) (okW_cons (.inl (leV_refl _)) okW_nil)))) okB_nil')
  · exact fun hg => ret1 (hR _ (Option.some.inj hg).symm) (fz_sc _ _)
theorem L40_0_ok (n : Nat) (c4 : Int) (a1 : List (List TTubeNode)) (c18 : Int) {t : ρ40} (R : AV → Mem → Prop) (hR : ∀ r : ρ40, t = r → ∀ u m, Ans ((intA r)) u m → R u m) (k : Nat) (x : Int) (hx : iterO (fun y : Int => S40_0 n c4 a1 c18 y) k x = some t) {s : St} (hw : Weak KK 29 0 s (h40_0 c4 (lstA (lstE TTubeNode.E) a1) c18 x [])) : Tri Try.prog KK 29 0 (.loop c40_0) s (q40_0 R ) :=
  L40_0 R  (σ := Nat × (Int)) (fun z => iterO (fun y : Int => S40_0 n c4 a1 c18 y) z.1 z.2 = some t) (fun z => c4) (fun z => (lstA (lstE TTubeNode.E) a1)) (fun z => c18) (fun z => z.2) (fun z => []) (fun z => z.1) (by
    rintro ⟨k, y⟩ h
    cases k with
    | zero => exact (iterO_zero h).elim
    | succ k =>
      obtain ⟨u, h1, h2, h3⟩ := iterO_elim h
      exact B40_0_ok n c4 a1 c18 y R  _ (fun r e => hR r (h3 _ e).symm)  (fun y' e s' hw => ⟨(k, y'), h2 _ e, Nat.lt_succ_self k, hw⟩) h1) (k, x) hx hw
theorem g40_ok (n : Nat) (a0 : List TSector) (a1 : List (List TTubeNode)) {t : ρ40} (R : AV → Mem → Prop) (hR : ∀ r : ρ40, t = r → ∀ u m, Ans ((intA r)) u m → R u m) : g40 n a0 a1 = some t → F40 (lstA TSector.E a0) (lstA (lstE TTubeNode.E) a1) R := by
  unfold g40 F40
  refine bind_b fun x145 h145 => ?_
  refine imp (callQ_says (sg24 h145)) ?_
  refine imp ex_i64_b ?_
  refine cond_b (fun _ => ?_) (fun _ => ?_)
  · exact fun hg => ret1 (hR _ (Option.some.inj hg).symm) (fz_sc _ _)
  · refine imp (opP_of (show _ = some ((intA (a1.length : Int)), []) from rfl)) ?_
    refine imp ex_i64_b ?_
    refine cond_b (fun _ => ?_) (fun _ => ?_)
    · exact fun hg => ret1 (hR _ (Option.some.inj hg).symm) (fz_sc _ _)
    · refine imp (opP_of (show _ = some ((intA (a1.length : Int)), []) from rfl)) ?_
      refine imp ex_i64_b ?_
      exact fun hg => L40_0_ok n (0) a1 (a1.length : Int) R  hR n _ hg (weak_mem [] rfl rfl rfl (okW_cons (.inl (leV_refl _)) (okW_cons (ent_lst (E := (lstE TTubeNode.E)) _ false) (okW_cons (.inl (leV_refl _)) (okW_cons (.inl (leV_refl _)) okW_nil)))) okB_nil')
theorem sg40 {n : Nat} {a0 : List TSector} {a1 : List (List TTubeNode)} {t : ρ40} (h : g40 n a0 a1 = some t) : Says Try.prog KK.gl 40 [(lstA TSector.E a0), (lstA (lstE TTubeNode.E) a1)] ((intA t)) :=
  says_of_own (by first | rfl | simp [cleans, clean, encs_clean, En.cln]) (by first | rfl | simp [cleans, clean, encs_clean, En.cln]) (F40_own (lstA TSector.E a0) (lstA (lstE TTubeNode.E) a1) _ (g40_ok n a0 a1 (Ans ((intA t))) (fun r e u m h => by rw [e]; exact h) h))
/- skyway/load.count -/
theorem B41_0_ok (n : Nat) (a0 : List TSector) (a2 : Int) (c7 : Int) (a1 : List (List TTubeNode)) (c19 : Int) (v9 : Int) (v20 : Int) (L90000 : List Int) {t : (Int × Int × List Int) ⊕ ρ41} (R : AV → Mem → Prop) (N0 : St → Prop) (hR : ∀ r : ρ41, t = (.inr r) → ∀ u m, Ans ((AV.tup [(lstA intE r.1), (intA r.2)])) u m → R u m) (hN0 : ∀ y : Int × Int × List Int, t = (.inl y) → ∀ s' : St, Weak KK 53 0 s' (h41_0 (lstA TSector.E a0) a2 AV.nils c7 (blkV intE 90000 y.2.2) y.1 (lstA (lstE TTubeNode.E) a1) c19 y.2.1 [(90000, some ⟨encs intE y.2.2, 3⟩)]) → N0 s') : S41_0 n a0 a2 c7 a1 c19 v9 v20 L90000 = some t → B41_0 (lstA TSector.E a0) a2 AV.nils c7 (blkV intE 90000 L90000) v9 (lstA (lstE TTubeNode.E) a1) c19 v20 [(90000, some ⟨encs intE L90000, 3⟩)] R N0 := by
  unfold S41_0 B41_0
  refine cond_b (fun _ => ?_) (fun _ => ?_)
  · refine bind_b fun x150 h150 => ?_
    refine imp (opP_of (show _ = some ((AV.ept [(lstA TTubeNode.E x150)] 0), []) from (idx_lst (E := (lstE TTubeNode.E)) rfl h150))) ?_
    refine imp (opP_of (show _ = some ((lstA TTubeNode.E x150), []) from rfl)) ?_
    refine bind_b fun x151 h151 => ?_
    refine imp (callQ_says (sg20 h151)) ?_
    refine imp exT2_b ?_
    refine imp exA6_b ?_
    refine imp ex_i64_b ?_
    refine imp ex_i64_b ?_
    refine imp ex_i64_b ?_
    refine imp ex_i64_b ?_
    refine imp ex_i64_b ?_
    refine imp ex_i64_b ?_
    refine imp ex_i64_b ?_
    refine cond_b (fun _ => ?_) (fun _ => ?_)
    · exact fun hg => hN0 _ (Option.some.inj hg).symm _ (weak_mem [(90000, 90000)] rfl rfl rfl (okW_cons (ent_lst (E := TSector.E) _ false) (okW_cons (.inl (leV_refl _)) (okW_cons (.inl (leV_refl _)) (okW_cons (.inl (leV_refl _)) (okW_cons (ent_blk (E := intE) (id := 90000) (l' := L90000) rfl rfl) (okW_cons (.inl (leV_refl _)) (okW_cons (ent_lst (E := (lstE TTubeNode.E)) _ false) (okW_cons (.inl (leV_refl _)) (okW_cons (.inl (leV_refl _)) okW_nil))))))))) (okB_cons (okB_cells (cs := encs intE L90000) (ty := 3) (encs_clean _) (show mget _ 90000 = _ from (by first | rfl | (simp (disch := first | decide | assumption) only [mpushs_nil, mpushs_cons, mget_hd, mget_tl, mget_appW_o, mget_appW_n, mget_appW_e])))) okB_nil'))
    · refine bind_b fun x152 h152 => ?_
      refine imp (callQ_says (sg32 h152)) ?_
      refine imp ex_i64_b ?_
      refine cond_b (fun _ => ?_) (fun _ => ?_)
      · refine bind_b fun x153 h153 => ?_
        refine imp (opP_of (show _ = some ((AV.ptr 90000 (((x152 : Int).toNat) * 1 + 0)), []) from (idx_blk (E := intE) rfl h153))) ?_
        refine imp (opP_of (show _ = some ((intA x153), []) from (ldS_blk (E := intE) (l := L90000) (ty := 3) (o := 0) (by first | rfl | (simp (disch := first | decide | assumption) only [mpushs_nil, mpushs_cons, mget_hd, mget_tl, mget_appW_o, mget_appW_n, mget_appW_e])) (getI_some h153).2 rfl (by decide) rfl))) ?_
        refine imp ex_i64_b ?_
        refine bind_b fun x154 h154 => ?_
        refine imp (opP_of (show _ = some ((AV.ptr 90000 (((x152 : Int).toNat) * 1 + 0)), []) from (idx_blk (E := intE) rfl h154))) ?_
        refine imp (storeW_el (E := intE) (l := L90000) (i := ((x152 : Int).toNat)) (o := 0) (y := (IntKind.wrap .i64 (x153 + (1)))) (ty := 3) (by kernel_rfl) (by kernel_rfl) rfl (by first | rfl | (simp (disch := first | decide | assumption) only [mpushs_nil, mpushs_cons, mget_hd, mget_tl, mget_appW_o, mget_appW_n, mget_appW_e])) (getI_some h154).2 rfl (by decide) rfl) ?_
        exact fun hg => hN0 _ (Option.some.inj hg).symm _ (weak_mem [(90000, 90000)] rfl rfl rfl (okW_cons (ent_lst (E := TSector.E) _ false) (okW_cons (.inl (leV_refl _)) (okW_cons (.inl (leV_refl _)) (okW_cons (.inl (leV_refl _)) (okW_cons (ent_blk (E := intE) (id := 90000) (l' := (L90000.set ((x152 : Int).toNat) (IntKind.wrap .i64 (x153 + (1))))) (by first | rfl | omega | (simp; done) | (simp; omega)) rfl) (okW_cons (.inl (leV_refl _)) (okW_cons (ent_lst (E := (lstE TTubeNode.E)) _ false) (okW_cons (.inl (leV_refl _)) (okW_cons (.inl (leV_refl _)) okW_nil))))))))) (okB_cons (okB_cells (cs := encs intE (L90000.set ((x152 : Int).toNat) (IntKind.wrap .i64 (x153 + (1))))) (ty := 3) (encs_clean _) (show mget _ 90000 = _ from (by first | rfl | (simp (disch := first | decide | assumption) only [mpushs_nil, mpushs_cons, mget_hd, mget_tl, mget_appW_o, mget_appW_n, mget_appW_e])))) okB_nil'))
      · exact fun hg => hN0 _ (Option.some.inj hg).symm _ (weak_mem [(90000, 90000)] rfl rfl rfl (okW_cons (ent_lst (E := TSector.E) _ false) (okW_cons (.inl (leV_refl _)) (okW_cons (.inl (leV_refl _)) (okW_cons (.inl (leV_refl _)) (okW_cons (ent_blk (E := intE) (id := 90000) (l' := L90000) rfl rfl) (okW_cons (.inl (leV_refl _)) (okW_cons (ent_lst (E := (lstE TTubeNode.E)) _ false) (okW_cons (.inl (leV_refl _)) (okW_cons (.inl (leV_refl _)) okW_nil))))))))) (okB_cons (okB_cells (cs := encs intE L90000) (ty := 3) (encs_clean _) (show mget _ 90000 = _ from (by first | rfl | (simp (disch := first | decide | assumption) only [mpushs_nil, mpushs_cons, mget_hd, mget_tl, mget_appW_o, mget_appW_n, mget_appW_e])))) okB_nil'))
  · exact fun hg => retN rfl (hR _ (Option.some.inj hg).symm) (fzL_cons (fz_blk (E := intE) (ty := 3) (l' := L90000) _ rfl (by first | rfl | (simp (disch := first | decide | assumption) only [mpushs_nil, mpushs_cons, mget_hd, mget_tl, mget_appW_o, mget_appW_n, mget_appW_e]))) (fzL_cons (fz_sc _ _) fzL_nil))
theorem L41_0_ok (n : Nat) (a0 : List TSector) (a2 : Int) (c7 : Int) (a1 : List (List TTubeNode)) (c19 : Int) {t : ρ41} (R : AV → Mem → Prop) (hR : ∀ r : ρ41, t = r → ∀ u m, Ans ((AV.tup [(lstA intE r.1), (intA r.2)])) u m → R u m) (k : Nat) (x : Int × Int × List Int) (hx : iterO (fun y : Int × Int × List Int => S41_0 n a0 a2 c7 a1 c19 y.1 y.2.1 y.2.2) k x = some t) {s : St} (hw : Weak KK 53 0 s (h41_0 (lstA TSector.E a0) a2 AV.nils c7 (blkV intE 90000 x.2.2) x.1 (lstA (lstE TTubeNode.E) a1) c19 x.2.1 [(90000, some ⟨encs intE x.2.2, 3⟩)])) : Tri Try.prog KK 53 0 (.loop c41_0) s (q41_0 R ) :=
  L41_0 R  (σ := Nat × (Int × Int × List Int)) (fun z => iterO (fun y : Int × Int × List Int => S41_0 n a0 a2 c7 a1 c19 y.1 y.2.1 y.2.2) z.1 z.2 = some t) (fun z => (lstA TSector.E a0)) (fun z => a2) (fun z => AV.nils) (fun z => c7) (fun z => (blkV intE 90000 z.2.2.2)) (fun z => z.2.1) (fun z => (lstA (lstE TTubeNode.E) a1)) (fun z => c19) (fun z => z.2.2.1) (fun z => [(90000, some ⟨encs intE z.2.2.2, 3⟩)]) (fun z => z.1) (by
    rintro ⟨k, y⟩ h
    cases k with
    | zero => exact (iterO_zero h).elim
    | succ k =>
      obtain ⟨u, h1, h2, h3⟩ := iterO_elim h
      exact B41_0_ok n a0 a2 c7 a1 c19 y.1 y.2.1 y.2.2 R  _ (fun r e => hR r (h3 _ e).symm)  (fun y' e s' hw => ⟨(k, y'), h2 _ e, Nat.lt_succ_self k, hw⟩) h1) (k, x) hx hw
theorem g41_ok (n : Nat) (a0 : List TSector) (a1 : List (List TTubeNode)) (a2 : Int) {t : ρ41} (R : AV → Mem → Prop) (hR : ∀ r : ρ41, t = r → ∀ u m, Ans ((AV.tup [(lstA intE r.1), (intA r.2)])) u m → R u m) : g41 n a0 a1 a2 = some t → F41 (lstA TSector.E a0) (lstA (lstE TTubeNode.E) a1) a2 R := by
  unfold g41 F41
  refine imp (opP_of (show _ = some ((intA (a0.length : Int)), []) from rfl)) ?_
  refine imp ex_i64_b ?_
  refine bind_b fun x149 h149 => ?_
  refine imp (opN_of (show _ = some ((blkV intE 4 (List.replicate x149 (0))), [(4, some ⟨encs intE (List.replicate x149 (0)), 3⟩)]) from (mks_ok (E := intE) (z := (0)) rfl rfl h149))) ?_
  refine imp (opP_of (show _ = some ((intA (a1.length : Int)), []) from rfl)) ?_
  refine imp ex_i64_b ?_
  exact fun hg => L41_0_ok n a0 a2 (0) a1 (a1.length : Int) R  hR n _ hg (weak_mem [(90000, 4)] rfl rfl rfl (okW_cons (ent_lst (E := TSector.E) _ false) (okW_cons (.inl (leV_refl _)) (okW_cons (.inl (leV_refl _)) (okW_cons (.inl (leV_refl _)) (okW_cons (ent_blk (E := intE) (id := 4) (l' := (List.replicate x149 (0))) rfl rfl) (okW_cons (.inl (leV_refl _)) (okW_cons (ent_lst (E := (lstE TTubeNode.E)) _ false) (okW_cons (.inl (leV_refl _)) (okW_cons (.inl (leV_refl _)) okW_nil))))))))) (okB_cons (okB_cells (cs := encs intE (List.replicate x149 (0))) (ty := 3) (encs_clean _) (show mget _ 4 = _ from (by first | rfl | (simp (disch := first | decide | assumption) only [mpushs_nil, mpushs_cons, mget_hd, mget_tl, mget_appW_o, mget_appW_n, mget_appW_e])))) okB_nil'))
theorem sg41 {n : Nat} {a0 : List TSector} {a1 : List (List TTubeNode)} {a2 : Int} {t : ρ41} (h : g41 n a0 a1 a2 = some t) : Says Try.prog KK.gl 41 [(lstA TSector.E a0), (lstA (lstE TTubeNode.E) a1), (intA a2)] ((AV.tup [(lstA intE t.1), (intA t.2)])) :=
  says_of_own (by first | rfl | simp [cleans, clean, encs_clean, En.cln]) (by first | rfl | simp [cleans, clean, encs_clean, En.cln]) (F41_own (lstA TSector.E a0) (lstA (lstE TTubeNode.E) a1) a2 _ (g41_ok n a0 a1 a2 (Ans ((AV.tup [(lstA intE t.1), (intA t.2)]))) (fun r e u m h => by rw [e]; exact h) h))
/- skyway/load.count -/
theorem B41_0_okM (n : Nat) (a0 : List TSector) (a2 : Int) (c7 : Int) (a1 : List (List TTubeNode)) (c19 : Int) (v9 : Int) (v20 : Int) (L90000 : List Int) {t : (Int × Int × List Int) ⊕ ρ41} (R : AV → Mem → Prop) (N0 : St → Prop) (hR : ∀ r : ρ41, t = (.inr r) → ∀ u m, MadeT intE 3 r.1 [Value.int .i64 r.2] u m → R u m) (hN0 : ∀ y : Int × Int × List Int, t = (.inl y) → ∀ s' : St, Weak KK 53 0 s' (h41_0 (lstA TSector.E a0) a2 AV.nils c7 (blkV intE 90000 y.2.2) y.1 (lstA (lstE TTubeNode.E) a1) c19 y.2.1 [(90000, some ⟨encs intE y.2.2, 3⟩)]) → N0 s') : S41_0 n a0 a2 c7 a1 c19 v9 v20 L90000 = some t → B41_0 (lstA TSector.E a0) a2 AV.nils c7 (blkV intE 90000 L90000) v9 (lstA (lstE TTubeNode.E) a1) c19 v20 [(90000, some ⟨encs intE L90000, 3⟩)] R N0 := by
  unfold S41_0 B41_0
  refine cond_b (fun _ => ?_) (fun _ => ?_)
  · refine bind_b fun x157 h157 => ?_
    refine imp (opP_of (show _ = some ((AV.ept [(lstA TTubeNode.E x157)] 0), []) from (idx_lst (E := (lstE TTubeNode.E)) rfl h157))) ?_
    refine imp (opP_of (show _ = some ((lstA TTubeNode.E x157), []) from rfl)) ?_
    refine bind_b fun x158 h158 => ?_
    refine imp (callQ_says (sg20 h158)) ?_
    refine imp exT2_b ?_
    refine imp exA6_b ?_
    refine imp ex_i64_b ?_
    refine imp ex_i64_b ?_
    refine imp ex_i64_b ?_
    refine imp ex_i64_b ?_
    refine imp ex_i64_b ?_
    refine imp ex_i64_b ?_
    refine imp ex_i64_b ?_
    refine cond_b (fun _ => ?_) (fun _ => ?_)
    · exact fun hg => hN0 _ (Option.some.inj hg).symm _ (weak_mem [(90000, 90000)] rfl rfl rfl (okW_cons (ent_lst (E := TSector.E) _ false) (okW_cons (.inl (leV_refl _)) (okW_cons (.inl (leV_refl _)) (okW_cons (.inl (leV_refl _)) (okW_cons (ent_blk (E := intE) (id := 90000) (l' := L90000) rfl rfl) (okW_cons (.inl (leV_refl _)) (okW_cons (ent_lst (E := (lstE TTubeNode.E)) _ false) (okW_cons (.inl (leV_refl _)) (okW_cons (.inl (leV_refl _)) okW_nil))))))))) (okB_cons (okB_cells (cs := encs intE L90000) (ty := 3) (encs_clean _) (show mget _ 90000 = _ from (by first | rfl | (simp (disch := first | decide | assumption) only [mpushs_nil, mpushs_cons, mget_hd, mget_tl, mget_appW_o, mget_appW_n, mget_appW_e])))) okB_nil'))
    · refine bind_b fun x159 h159 => ?_
      refine imp (callQ_says (sg32 h159)) ?_
      refine imp ex_i64_b ?_
      refine cond_b (fun _ => ?_) (fun _ => ?_)
      · refine bind_b fun x160 h160 => ?_
        refine imp (opP_of (show _ = some ((AV.ptr 90000 (((x159 : Int).toNat) * 1 + 0)), []) from (idx_blk (E := intE) rfl h160))) ?_
        refine imp (opP_of (show _ = some ((intA x160), []) from (ldS_blk (E := intE) (l := L90000) (ty := 3) (o := 0) (by first | rfl | (simp (disch := first | decide | assumption) only [mpushs_nil, mpushs_cons, mget_hd, mget_tl, mget_appW_o, mget_appW_n, mget_appW_e])) (getI_some h160).2 rfl (by decide) rfl))) ?_
        refine imp ex_i64_b ?_
        refine bind_b fun x161 h161 => ?_
        refine imp (opP_of (show _ = some ((AV.ptr 90000 (((x159 : Int).toNat) * 1 + 0)), []) from (idx_blk (E := intE) rfl h161))) ?_
        refine imp (storeW_el (E := intE) (l := L90000) (i := ((x159 : Int).toNat)) (o := 0) (y := (IntKind.wrap .i64 (x160 + (1)))) (ty := 3) (by kernel_rfl) (by kernel_rfl) rfl (by first | rfl | (simp (disch := first | decide | assumption) only [mpushs_nil, mpushs_cons, mget_hd, mget_tl, mget_appW_o, mget_appW_n, mget_appW_e])) (getI_some h161).2 rfl (by decide) rfl) ?_
        exact fun hg => hN0 _ (Option.some.inj hg).symm _ (weak_mem [(90000, 90000)] rfl rfl rfl (okW_cons (ent_lst (E := TSector.E) _ false) (okW_cons (.inl (leV_refl _)) (okW_cons (.inl (leV_refl _)) (okW_cons (.inl (leV_refl _)) (okW_cons (ent_blk (E := intE) (id := 90000) (l' := (L90000.set ((x159 : Int).toNat) (IntKind.wrap .i64 (x160 + (1))))) (by first | rfl | omega | (simp; done) | (simp; omega)) rfl) (okW_cons (.inl (leV_refl _)) (okW_cons (ent_lst (E := (lstE TTubeNode.E)) _ false) (okW_cons (.inl (leV_refl _)) (okW_cons (.inl (leV_refl _)) okW_nil))))))))) (okB_cons (okB_cells (cs := encs intE (L90000.set ((x159 : Int).toNat) (IntKind.wrap .i64 (x160 + (1))))) (ty := 3) (encs_clean _) (show mget _ 90000 = _ from (by first | rfl | (simp (disch := first | decide | assumption) only [mpushs_nil, mpushs_cons, mget_hd, mget_tl, mget_appW_o, mget_appW_n, mget_appW_e])))) okB_nil'))
      · exact fun hg => hN0 _ (Option.some.inj hg).symm _ (weak_mem [(90000, 90000)] rfl rfl rfl (okW_cons (ent_lst (E := TSector.E) _ false) (okW_cons (.inl (leV_refl _)) (okW_cons (.inl (leV_refl _)) (okW_cons (.inl (leV_refl _)) (okW_cons (ent_blk (E := intE) (id := 90000) (l' := L90000) rfl rfl) (okW_cons (.inl (leV_refl _)) (okW_cons (ent_lst (E := (lstE TTubeNode.E)) _ false) (okW_cons (.inl (leV_refl _)) (okW_cons (.inl (leV_refl _)) okW_nil))))))))) (okB_cons (okB_cells (cs := encs intE L90000) (ty := 3) (encs_clean _) (show mget _ 90000 = _ from (by first | rfl | (simp (disch := first | decide | assumption) only [mpushs_nil, mpushs_cons, mget_hd, mget_tl, mget_appW_o, mget_appW_n, mget_appW_e])))) okB_nil'))
  · exact fun hg => hR _ (Option.some.inj hg).symm _ _ ⟨_, rfl, (made_blk_pf (E := intE) (ty := 3) (l := L90000) rfl (by first | rfl | (simp (disch := first | decide | assumption) only [mpushs_nil, mpushs_cons, mget_hd, mget_tl, mget_appW_o, mget_appW_n, mget_appW_e])))⟩
theorem L41_0_okM (n : Nat) (a0 : List TSector) (a2 : Int) (c7 : Int) (a1 : List (List TTubeNode)) (c19 : Int) {t : ρ41} (R : AV → Mem → Prop) (hR : ∀ r : ρ41, t = r → ∀ u m, MadeT intE 3 r.1 [Value.int .i64 r.2] u m → R u m) (k : Nat) (x : Int × Int × List Int) (hx : iterO (fun y : Int × Int × List Int => S41_0 n a0 a2 c7 a1 c19 y.1 y.2.1 y.2.2) k x = some t) {s : St} (hw : Weak KK 53 0 s (h41_0 (lstA TSector.E a0) a2 AV.nils c7 (blkV intE 90000 x.2.2) x.1 (lstA (lstE TTubeNode.E) a1) c19 x.2.1 [(90000, some ⟨encs intE x.2.2, 3⟩)])) : Tri Try.prog KK 53 0 (.loop c41_0) s (q41_0 R ) :=
  L41_0 R  (σ := Nat × (Int × Int × List Int)) (fun z => iterO (fun y : Int × Int × List Int => S41_0 n a0 a2 c7 a1 c19 y.1 y.2.1 y.2.2) z.1 z.2 = some t) (fun z => (lstA TSector.E a0)) (fun z => a2) (fun z => AV.nils) (fun z => c7) (fun z => (blkV intE 90000 z.2.2.2)) (fun z => z.2.1) (fun z => (lstA (lstE TTubeNode.E) a1)) (fun z => c19) (fun z => z.2.2.1) (fun z => [(90000, some ⟨encs intE z.2.2.2, 3⟩)]) (fun z => z.1) (by
    rintro ⟨k, y⟩ h
    cases k with
    | zero => exact (iterO_zero h).elim
    | succ k =>
      obtain ⟨u, h1, h2, h3⟩ := iterO_elim h
      exact B41_0_okM n a0 a2 c7 a1 c19 y.1 y.2.1 y.2.2 R  _ (fun r e => hR r (h3 _ e).symm)  (fun y' e s' hw => ⟨(k, y'), h2 _ e, Nat.lt_succ_self k, hw⟩) h1) (k, x) hx hw
theorem g41_okM (n : Nat) (a0 : List TSector) (a1 : List (List TTubeNode)) (a2 : Int) {t : ρ41} (R : AV → Mem → Prop) (hR : ∀ r : ρ41, t = r → ∀ u m, MadeT intE 3 r.1 [Value.int .i64 r.2] u m → R u m) : g41 n a0 a1 a2 = some t → F41 (lstA TSector.E a0) (lstA (lstE TTubeNode.E) a1) a2 R := by
  unfold g41 F41
  refine imp (opP_of (show _ = some ((intA (a0.length : Int)), []) from rfl)) ?_
  refine imp ex_i64_b ?_
  refine bind_b fun x156 h156 => ?_
  refine imp (opN_of (show _ = some ((blkV intE 4 (List.replicate x156 (0))), [(4, some ⟨encs intE (List.replicate x156 (0)), 3⟩)]) from (mks_ok (E := intE) (z := (0)) rfl rfl h156))) ?_
  refine imp (opP_of (show _ = some ((intA (a1.length : Int)), []) from rfl)) ?_
  refine imp ex_i64_b ?_
  exact fun hg => L41_0_okM n a0 a2 (0) a1 (a1.length : Int) R  hR n _ hg (weak_mem [(90000, 4)] rfl rfl rfl (okW_cons (ent_lst (E := TSector.E) _ false) (okW_cons (.inl (leV_refl _)) (okW_cons (.inl (leV_refl _)) (okW_cons (.inl (leV_refl _)) (okW_cons (ent_blk (E := intE) (id := 4) (l' := (List.replicate x156 (0))) rfl rfl) (okW_cons (.inl (leV_refl _)) (okW_cons (ent_lst (E := (lstE TTubeNode.E)) _ false) (okW_cons (.inl (leV_refl _)) (okW_cons (.inl (leV_refl _)) okW_nil))))))))) (okB_cons (okB_cells (cs := encs intE (List.replicate x156 (0))) (ty := 3) (encs_clean _) (show mget _ 4 = _ from (by first | rfl | (simp (disch := first | decide | assumption) only [mpushs_nil, mpushs_cons, mget_hd, mget_tl, mget_appW_o, mget_appW_n, mget_appW_e])))) okB_nil'))
theorem mg41C {n k : Nat} {look : Nat → Option ABlk} {a0 : List TSector} {a1 : List (List TTubeNode)} {a2 : Int} {t : ρ41} (h : g41 n a0 a1 a2 = some t) : PureD Try.prog KK.gl look k 41 [(lstA TSector.E a0), (lstA (lstE TTubeNode.E) a1), (intA a2)] (.tup (ownV intE k t.1 :: ([Value.int .i64 t.2] : List Value).map AV.sc)) [(k, ownB intE 3 t.1)] :=
  made_tupC (by first | rfl | simp [cleans, clean, encs_clean, En.cln]) (F41_own (lstA TSector.E a0) (lstA (lstE TTubeNode.E) a1) a2 _ (g41_okM n a0 a1 a2 (MadeT intE 3 t.1 [Value.int .i64 t.2]) (fun r e u m h => by rw [e]; exact h) h))
theorem mg41S {n k : Nat} {look : Nat → Option ABlk} {args : List AV} {a0 : List TSector} {a1 : List (List TTubeNode)} {a2 : Int} {t : ρ41} (h : g41 n a0 a1 a2 = some t) (hs : SnL look 6 args [(lstA TSector.E a0), (lstA (lstE TTubeNode.E) a1), (intA a2)]) : PureD Try.prog KK.gl look k 41 args (.tup (ownV intE k t.1 :: ([Value.int .i64 t.2] : List Value).map AV.sc)) [(k, ownB intE 3 t.1)] :=
  made_tupS (fun _ => rfl) hs (F41_own (lstA TSector.E a0) (lstA (lstE TTubeNode.E) a1) a2 _ (g41_okM n a0 a1 a2 (MadeT intE 3 t.1 [Value.int .i64 t.2]) (fun r e u m h => by rw [e]; exact h) h))
/- skyway/load.Count -/
theorem g19_ok (n : Nat) (a0 : List TSector) (a1 : List (List TTubeNode)) (a2 : Int) {t : ρ19} (R : AV → Mem → Prop) (hR : ∀ r : ρ19, t = r → ∀ u m, Ans ((AV.tup [(lstA intE r.1), (intA r.2.1), (intA r.2.2)])) u m → R u m) : g19 n a0 a1 a2 = some t → F19 (lstA TSector.E a0) (lstA (lstE TTubeNode.E) a1) a2 R := by
  unfold g19 F19
  refine bind_b fun x148 h148 => ?_
  refine imp (callQ_says (sg40 h148)) ?_
  refine imp ex_i64_b ?_
  refine cond_b (fun _ => ?_) (fun _ => ?_)
  · exact fun hg => retN rfl (hR _ (Option.some.inj hg).symm) (fzL_cons (fz_nils (E := intE) _) (fzL_cons (fz_sc _ _) (fzL_cons (fz_sc _ _) fzL_nil)))
  · refine cond_b (fun _ => ?_) (fun _ => ?_)
    · exact fun hg => retN rfl (hR _ (Option.some.inj hg).symm) (fzL_cons (fz_nils (E := intE) _) (fzL_cons (fz_sc _ _) (fzL_cons (fz_sc _ _) fzL_nil)))
    · refine cond_b (fun _ => ?_) (fun _ => ?_)
      · exact fun hg => retN rfl (hR _ (Option.some.inj hg).symm) (fzL_cons (fz_nils (E := intE) _) (fzL_cons (fz_sc _ _) (fzL_cons (fz_sc _ _) fzL_nil)))
      · refine bind_b fun x155 h155 => ?_
        refine imp (callW_D (show PureD _ _ _ _ _ _ (AV.tup [(ownV intE 81 x155.1), (intA x155.2)]) [(81, ownB intE 3 x155.1)] from mg41C h155)) ?_
        refine imp exT2_b ?_
        refine imp ex_i64_b ?_
        exact fun hg => retN rfl (hR _ (Option.some.inj hg).symm) (fzL_cons (fz_own (E := intE) (ty := 3) (l' := x155.1) _ rfl (by first | rfl | (simp (disch := first | decide | assumption) only [mpushs_nil, mpushs_cons, mget_hd, mget_tl, mget_appW_o, mget_appW_n, mget_appW_e]))) (fzL_cons (fz_sc _ _) (fzL_cons (fz_sc _ _) fzL_nil)))
theorem sg19 {n : Nat} {a0 : List TSector} {a1 : List (List TTubeNode)} {a2 : Int} {t : ρ19} (h : g19 n a0 a1 a2 = some t) : Says Try.prog KK.gl 19 [(lstA TSector.E a0), (lstA (lstE TTubeNode.E) a1), (intA a2)] ((AV.tup [(lstA intE t.1), (intA t.2.1), (intA t.2.2)])) :=
  says_of_own (by first | rfl | simp [cleans, clean, encs_clean, En.cln]) (by first | rfl | simp [cleans, clean, encs_clean, En.cln]) (F19_own (lstA TSector.E a0) (lstA (lstE TTubeNode.E) a1) a2 _ (g19_ok n a0 a1 a2 (Ans ((AV.tup [(lstA intE t.1), (intA t.2.1), (intA t.2.2)]))) (fun r e u m h => by rw [e]; exact h) h))
/- skyway/load.Count -/
theorem g19_okM (n : Nat) (a0 : List TSector) (a1 : List (List TTubeNode)) (a2 : Int) {t : ρ19} (R : AV → Mem → Prop) (hR : ∀ r : ρ19, t = r → ∀ u m, MadeT intE 3 r.1 [Value.int .i64 r.2.1, Value.int .i64 r.2.2] u m → R u m) : g19 n a0 a1 a2 = some t → F19 (lstA TSector.E a0) (lstA (lstE TTubeNode.E) a1) a2 R := by
  unfold g19 F19
  refine bind_b fun x166 h166 => ?_
  refine imp (callQ_says (sg40 h166)) ?_
  refine imp ex_i64_b ?_
  refine cond_b (fun _ => ?_) (fun _ => ?_)
  · exact fun hg => hR _ (Option.some.inj hg).symm _ _ ⟨_, rfl, made_nils_pf⟩
  · refine cond_b (fun _ => ?_) (fun _ => ?_)
    · exact fun hg => hR _ (Option.some.inj hg).symm _ _ ⟨_, rfl, made_nils_pf⟩
    · refine cond_b (fun _ => ?_) (fun _ => ?_)
      · exact fun hg => hR _ (Option.some.inj hg).symm _ _ ⟨_, rfl, made_nils_pf⟩
      · refine bind_b fun x167 h167 => ?_
        refine imp (callW_D (show PureD _ _ _ _ _ _ (AV.tup [(ownV intE 81 x167.1), (intA x167.2)]) [(81, ownB intE 3 x167.1)] from mg41C h167)) ?_
        refine imp exT2_b ?_
        refine imp ex_i64_b ?_
        exact fun hg => hR _ (Option.some.inj hg).symm _ _ ⟨_, rfl, (made_own_pf (E := intE) (ty := 3) (l := x167.1) rfl (by first | rfl | (simp (disch := first | decide | assumption) only [mpushs_nil, mpushs_cons, mget_hd, mget_tl, mget_appW_o, mget_appW_n, mget_appW_e])))⟩
theorem mg19C {n k : Nat} {look : Nat → Option ABlk} {a0 : List TSector} {a1 : List (List TTubeNode)} {a2 : Int} {t : ρ19} (h : g19 n a0 a1 a2 = some t) : PureD Try.prog KK.gl look k 19 [(lstA TSector.E a0), (lstA (lstE TTubeNode.E) a1), (intA a2)] (.tup (ownV intE k t.1 :: ([Value.int .i64 t.2.1, Value.int .i64 t.2.2] : List Value).map AV.sc)) [(k, ownB intE 3 t.1)] :=
  made_tupC (by first | rfl | simp [cleans, clean, encs_clean, En.cln]) (F19_own (lstA TSector.E a0) (lstA (lstE TTubeNode.E) a1) a2 _ (g19_okM n a0 a1 a2 (MadeT intE 3 t.1 [Value.int .i64 t.2.1, Value.int .i64 t.2.2]) (fun r e u m h => by rw [e]; exact h) h))
theorem mg19S {n k : Nat} {look : Nat → Option ABlk} {args : List AV} {a0 : List TSector} {a1 : List (List TTubeNode)} {a2 : Int} {t : ρ19} (h : g19 n a0 a1 a2 = some t) (hs : SnL look 6 args [(lstA TSector.E a0), (lstA (lstE TTubeNode.E) a1), (intA a2)]) : PureD Try.prog KK.gl look k 19 args (.tup (ownV intE k t.1 :: ([Value.int .i64 t.2.1, Value.int .i64 t.2.2] : List Value).map AV.sc)) [(k, ownB intE 3 t.1)] :=
  made_tupS (fun _ => rfl) hs (F19_own (lstA TSector.E a0) (lstA (lstE TTubeNode.E) a1) a2 _ (g19_okM n a0 a1 a2 (MadeT intE 3 t.1 [Value.int .i64 t.2.1, Value.int .i64 t.2.2]) (fun r e u m h => by rw [e]; exact h) h))
end Go.Proofs.Ytldiackagnjlgaa
