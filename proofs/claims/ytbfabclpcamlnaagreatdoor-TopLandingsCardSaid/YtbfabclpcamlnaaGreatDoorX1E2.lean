/- A part. -/
import Derived.Test.YtbfabclpcamlnaaGreatDoorX1E1
set_option linter.unusedVariables false
set_option linter.unusedSimpArgs false
set_option maxRecDepth 100000
set_option maxHeartbeats 4000000
namespace Go.Proofs.YtbfabclpcamlnaaGreatDoor
theorem Aae (n : Nat) (a0 : List Ag) (a1 : Int) {t : wA} (R : AV → Mem → Prop) (hR : ∀ r : wA, t = r → ∀ u m, Cu ((AV.tup [(AV.agg (Ag.E.enc r.1)), (Aa r.2)])) u m → R u m) : g84 n a0 a1 = some t → F84 (Am Ag.E a0) a1 R := by
  unfold g84 F84
  refine Aq fun x41 h41 => ?_
  refine imp (A1 (Adz h41)) ?_
  refine imp Ai ?_
  refine An (fun _ => ?_) (fun _ => ?_)
  · refine iq (AV.agg [(Aa (0)), (Aa (0)), (Aa (0)), (Aa (0)), (Aa (0)), (Aa (0))]) rfl ?_
    refine imp (Cv (sz := 6) (by kernel_rfl) (by kernel_rfl) rfl rfl (cs := [(Aa (0)), (Aa (0)), (Aa (0)), (Aa (0)), (Aa (0)), (Aa (0))]) (cs' := [(Aa (0)), (Aa (0)), (Aa (0)), (Aa (0)), (Aa (0)), (Aa (0))]) (ty := 134) (by first | rfl | (simp (disch := first | decide | assumption) only [lk])) rfl rfl) ?_
    exact fun hg => D4 rfl (hR _ (Option.some.inj hg).symm) (Dp (H9 (E := Ag.E) _ (⟨(0), (0), (0), (0), (0), (0)⟩ : Ag)) (fS Bu))
  · refine Aq fun x44 h44 => ?_
    refine imp (A1 (Acs h44)) ?_
    refine imp E5 ?_
    iterate 2 refine imp Ai ?_
    refine An (fun _ => ?_) (fun _ => ?_)
    · refine iq (AV.agg [(Aa (0)), (Aa (0)), (Aa (0)), (Aa (0)), (Aa (0)), (Aa (0))]) rfl ?_
      refine imp (Cv (sz := 6) (by kernel_rfl) (by kernel_rfl) rfl rfl (cs := [(Aa (0)), (Aa (0)), (Aa (0)), (Aa (0)), (Aa (0)), (Aa (0))]) (cs' := [(Aa (0)), (Aa (0)), (Aa (0)), (Aa (0)), (Aa (0)), (Aa (0))]) (ty := 134) (by first | rfl | (simp (disch := first | decide | assumption) only [lk])) rfl rfl) ?_
      exact fun hg => D4 rfl (hR _ (Option.some.inj hg).symm) (Dp (H9 (E := Ag.E) _ (⟨(0), (0), (0), (0), (0), (0)⟩ : Ag)) (fS Bu))
    · refine An (fun _ => ?_) (fun _ => ?_)
      · refine iq (AV.agg [(Aa (0)), (Aa (0)), (Aa (0)), (Aa (0)), (Aa (0)), (Aa (0))]) rfl ?_
        refine imp (Cv (sz := 6) (by kernel_rfl) (by kernel_rfl) rfl rfl (cs := [(Aa (0)), (Aa (0)), (Aa (0)), (Aa (0)), (Aa (0)), (Aa (0))]) (cs' := [(Aa (0)), (Aa (0)), (Aa (0)), (Aa (0)), (Aa (0)), (Aa (0))]) (ty := 134) (by first | rfl | (simp (disch := first | decide | assumption) only [lk])) rfl rfl) ?_
        exact fun hg => D4 rfl (hR _ (Option.some.inj hg).symm) (Dp (H9 (E := Ag.E) _ (⟨(0), (0), (0), (0), (0), (0)⟩ : Ag)) (fS Bu))
      · refine Aq fun x69 h69 => ?_
        refine imp (A1 (Adu h69)) ?_
        refine imp Jq ?_
        iterate 6 refine imp Ai ?_
        exact fun hg => D4 rfl (hR _ (Option.some.inj hg).symm) (Dp (H9 (E := Ag.E) _ x69) (fS Bu))
theorem Adn {n : Nat} {a0 : List Ag} {a1 : Int} {t : wA} (h : g84 n a0 a1 = some t) : C3 pg KK.gl 84 [(Am Ag.E a0), (Aa a1)] ((AV.tup [(AV.agg (Ag.E.enc t.1)), (Aa t.2)])) :=
  A5 (by first | rfl | simp [As, clean, Ak, En.Di]) (by first | rfl | simp [As, clean, Ak, En.Di]) (wR (Am Ag.E a0) a1 _ (Aae n a0 a1 (Cu ((AV.tup [(AV.agg (Ag.E.enc t.1)), (Aa t.2)]))) (fun r e u m h => by rw [e]; exact h) h))
theorem qK (n : Nat) (a0 : TP) (a1 : TP) {t : eU} (R : AV → Mem → Prop) (hR : ∀ r : eU, t = r → ∀ u m, Cu ((AV.agg (TP.E.enc r))) u m → R u m) : wZ n a0 a1 = some t → qO a0.X a0.Y a1.X a1.Y R := by
  unfold wZ qO
  refine iq (AV.agg [(Aa (IntKind.wrap .i64 (a0.X - a1.X))), (Aa (IntKind.wrap .i64 (a0.Y - a1.Y)))]) rfl ?_
  refine imp (Cv (sz := 2) (by kernel_rfl) (by kernel_rfl) rfl rfl (cs := [(Aa (0)), (Aa (0))]) (cs' := [(Aa (IntKind.wrap .i64 (a0.X - a1.X))), (Aa (IntKind.wrap .i64 (a0.Y - a1.Y)))]) (ty := 88) (by first | rfl | (simp (disch := first | decide | assumption) only [lk])) rfl rfl) ?_
  exact fun hg => oF (hR _ (Option.some.inj hg).symm) (H9 (E := TP.E) _ (⟨(IntKind.wrap .i64 (a0.X - a1.X)), (IntKind.wrap .i64 (a0.Y - a1.Y))⟩ : TP))
theorem Adw {n : Nat} {a0 : TP} {a1 : TP} {t : eU} (h : wZ n a0 a1 = some t) : C3 pg KK.gl 223 [(AV.agg [(Aa a0.X), (Aa a0.Y)]), (AV.agg [(Aa a1.X), (Aa a1.Y)])] ((AV.agg (TP.E.enc t))) :=
  A5 (by first | rfl | simp [As, clean, Ak, En.Di]) (by first | rfl | simp [As, clean, Ak, En.Di]) (kU a0.X a0.Y a1.X a1.Y _ (qK n a0 a1 (Cu ((AV.agg (TP.E.enc t)))) (fun r e u m h => by rw [e]; exact h) h))
theorem sZ (n : Nat) (a0 : TP) (a1 : TP) {t : dP} (R : AV → Mem → Prop) (hR : ∀ r : dP, t = r → ∀ u m, Cu ((Aa r)) u m → R u m) : rC n a0 a1 = some t → vY a0.X a0.Y a1.X a1.Y R := by
  unfold rC vY
  exact Df hR rfl rfl
theorem Aca {n : Nat} {a0 : TP} {a1 : TP} {t : dP} (h : rC n a0 a1 = some t) : C3 pg KK.gl 298 [(AV.agg [(Aa a0.X), (Aa a0.Y)]), (AV.agg [(Aa a1.X), (Aa a1.Y)])] ((Aa t)) :=
  A5 (by first | rfl | simp [As, clean, Ak, En.Di]) (by first | rfl | simp [As, clean, Ak, En.Di]) (lL a0.X a0.Y a1.X a1.Y _ (sZ n a0 a1 (Cu ((Aa t))) (fun r e u m h => by rw [e]; exact h) h))
theorem tN (n : Nat) (a0 : TP) (a1 : TP) {t : fF} (R : AV → Mem → Prop) (hR : ∀ r : fF, t = r → ∀ u m, Cu ((Aa r)) u m → R u m) : vZ n a0 a1 = some t → sE a0.X a0.Y a1.X a1.Y R := by
  unfold vZ sE
  refine Aq fun x72 h72 => ?_
  refine imp (A1 (Adw h72)) ?_
  refine imp J0 ?_
  iterate 2 refine imp Ai ?_
  refine Aq fun x73 h73 => ?_
  refine imp (A1 (Aca h73)) ?_
  refine imp Ai ?_
  exact Df hR rfl rfl
theorem Ad9 {n : Nat} {a0 : TP} {a1 : TP} {t : fF} (h : vZ n a0 a1 = some t) : C3 pg KK.gl 264 [(AV.agg [(Aa a0.X), (Aa a0.Y)]), (AV.agg [(Aa a1.X), (Aa a1.Y)])] ((Aa t)) :=
  A5 (by first | rfl | simp [As, clean, Ak, En.Di]) (by first | rfl | simp [As, clean, Ak, En.Di]) (nD a0.X a0.Y a1.X a1.Y _ (tN n a0 a1 (Cu ((Aa t))) (fun r e u m h => by rw [e]; exact h) h))
theorem jR (n : Nat) (a0 : Int) (c2 : Int) (v3 : Int) (v4 : Int) {t : (Int × Int) ⊕ Ns} (R : AV → Mem → Prop) (N0 : St → Prop) (hR : ∀ r : Ns, t = (.inr r) → ∀ u m, Cu ((Aa r)) u m → R u m) (hN0 : ∀ y : Int × Int, t = (.inl y) → ∀ s' : St, Bo KK 27 0 s' (N3 a0 c2 y.1 y.2 []) → N0 s') : Ru n a0 c2 v3 v4 = some t → Vl a0 c2 v3 v4 [] R N0 := by
  unfold Ru Vl
  refine An (fun _ => ?_) (fun _ => ?_)
  · refine An (fun _ => ?_) (fun _ => ?_)
    · exact fun hg => hN0 _ (Option.some.inj hg).symm _ (Az [] rfl rfl rfl (oR (oR (oR (oR A6)))) A0)
    · exact fun hg => hN0 _ (Option.some.inj hg).symm _ (Az [] rfl rfl rfl (oR (oR (oR (oR A6)))) A0)
  · exact Df hR rfl rfl
theorem gB (n : Nat) (a0 : Int) (c2 : Int) {t : Ns} (R : AV → Mem → Prop) (hR : ∀ r : Ns, t = r → ∀ u m, Cu ((Aa r)) u m → R u m) (k : Nat) (x : Int × Int) (hx : Ba (fun y : Int × Int => Ru n a0 c2 y.1 y.2) k x = some t) {s : St} (hw : Bo KK 27 0 s (N3 a0 c2 x.1 x.2 [])) : Ca pg KK 27 0 (.loop Wf) s (Ug R ) :=
  Aal R  (σ := Nat × (Int × Int)) (fun z => Ba (fun y : Int × Int => Ru n a0 c2 y.1 y.2) z.1 z.2 = some t) (fun z => a0) (fun z => c2) (fun z => z.2.1) (fun z => z.2.2) (fun z => []) (fun z => z.1) (by
    rintro ⟨k, y⟩ h
    cases k with
    | zero => exact (Bp h).elim
    | succ k =>
      obtain ⟨u, h1, h2, h3⟩ := Bq h
      exact jR n a0 c2 y.1 y.2 R  _ (fun r e => hR r (h3 _ e).symm)  (fun y' e s' hw => ⟨(k, y'), h2 _ e, Nat.lt_succ_self k, hw⟩) h1) (k, x) hx hw
theorem xB (n : Nat) (a0 : Int) {t : Ns} (R : AV → Mem → Prop) (hR : ∀ r : Ns, t = r → ∀ u m, Cu ((Aa r)) u m → R u m) : rD n a0 = some t → rI a0 R := by
  unfold rD rI
  refine An (fun _ => ?_) (fun _ => ?_)
  · exact Df hR rfl rfl
  · exact fun hg => gB n a0 (0) R  hR n _ hg (Az [] rfl rfl rfl (oR (oR (oR (oR A6)))) A0)
theorem Ade {n : Nat} {a0 : Int} {t : Ns} (h : rD n a0 = some t) : C3 pg KK.gl 265 [(Aa a0)] ((Aa t)) :=
  A5 (by first | rfl | simp [As, clean, Ak, En.Di]) (by first | rfl | simp [As, clean, Ak, En.Di]) (pO a0 _ (xB n a0 (Cu ((Aa t))) (fun r e u m h => by rw [e]; exact h) h))
theorem vL (n : Nat) (a0 : TP) (a1 : TP) {t : dJ} (R : AV → Mem → Prop) (hR : ∀ r : dJ, t = r → ∀ u m, Cu ((AV.tup [(Aa r.1), (Aa r.2)])) u m → R u m) : rU n a0 a1 = some t → tS a0.X a0.Y a1.X a1.Y R := by
  unfold rU tS
  refine Aq fun x74 h74 => ?_
  refine imp (A1 (Ad9 h74)) ?_
  refine imp Ai ?_
  refine Aq fun x75 h75 => ?_
  refine imp (A1 (Ade h75)) ?_
  refine imp Ai ?_
  refine An (fun _ => ?_) (fun _ => ?_)
  · exact fun hg => D4 rfl (hR _ (Option.some.inj hg).symm) (fS (fS Bu))
  · exact fun hg => D4 rfl (hR _ (Option.some.inj hg).symm) (fS (fS Bu))
theorem Ady {n : Nat} {a0 : TP} {a1 : TP} {t : dJ} (h : rU n a0 a1 = some t) : C3 pg KK.gl 200 [(AV.agg [(Aa a0.X), (Aa a0.Y)]), (AV.agg [(Aa a1.X), (Aa a1.Y)])] ((AV.tup [(Aa t.1), (Aa t.2)])) :=
  A5 (by first | rfl | simp [As, clean, Ak, En.Di]) (by first | rfl | simp [As, clean, Ak, En.Di]) (lR a0.X a0.Y a1.X a1.Y _ (vL n a0 a1 (Cu ((AV.tup [(Aa t.1), (Aa t.2)]))) (fun r e u m h => by rw [e]; exact h) h))
theorem vK (n : Nat) (a0 : Ag) (a1 : Ag) (a2 : G7) {t : eH} (R : AV → Mem → Prop) (hR : ∀ r : eH, t = r → ∀ u m, Cu ((Ac r)) u m → R u m) : tM n a0 a1 a2 = some t → tE a0.Ar a0.A8 a0.A7 a0.Ap a0.Bn a0.C5 a1.Ar a1.A8 a1.A7 a1.Ap a1.Bn a1.C5 a2.Dg a2.C0 R := by
  unfold tM tE
  refine Aq fun x76 h76 => ?_
  refine imp (A1 (Ady h76)) ?_
  refine imp E5 ?_
  iterate 2 refine imp Ai ?_
  refine An (fun _ => ?_) (fun _ => ?_)
  · exact Df hR rfl rfl
  · refine iq (Aa (if (IntKind.wrap .i64 (a1.Ap - a0.Ap)) > (IntKind.wrap .i64 (a0.Ap - a1.Ap)) then (IntKind.wrap .i64 (a1.Ap - a0.Ap)) else (IntKind.wrap .i64 (a0.Ap - a1.Ap)))) (by kernel_rfl) ?_
    refine imp Ai ?_
    exact Df hR rfl rfl
theorem Ad7 {n : Nat} {a0 : Ag} {a1 : Ag} {a2 : G7} {t : eH} (h : tM n a0 a1 a2 = some t) : C3 pg KK.gl 202 [(AV.agg [(Aa a0.Ar), (Aa a0.A8), (Aa a0.A7), (Aa a0.Ap), (Aa a0.Bn), (Aa a0.C5)]), (AV.agg [(Aa a1.Ar), (Aa a1.A8), (Aa a1.A7), (Aa a1.Ap), (Aa a1.Bn), (Aa a1.C5)]), (AV.agg [(Aa a2.Dg), (Aa a2.C0)])] ((Ac t)) :=
  A5 (by first | rfl | simp [As, clean, Ak, En.Di]) (by first | rfl | simp [As, clean, Ak, En.Di]) (lF a0.Ar a0.A8 a0.A7 a0.Ap a0.Bn a0.C5 a1.Ar a1.A8 a1.A7 a1.Ap a1.Bn a1.C5 a2.Dg a2.C0 _ (vK n a0 a1 a2 (Cu ((Ac t))) (fun r e u m h => by rw [e]; exact h) h))
theorem iG (n : Nat) (a0 : List Ag) (a1 : List Ag) (c9 : Int) (k0_0 : Int) (k0_1 : Int) (v10 : Int) (L90000 : List Bm) {t : (Int × List Bm) ⊕ Ni} (R : AV → Mem → Prop) (N0 : St → Prop) (hR : ∀ r : Ni, t = (.inr r) → ∀ u m, Cu ((Am Bm.E r)) u m → R u m) (hN0 : ∀ y : Int × List Bm, t = (.inl y) → ∀ s' : St, Bo KK 73 0 s' (O1 (Am Ag.E a0) (Am Ag.E a1) AV.Cc (B5 Bm.E 90000 y.2) c9 y.1 k0_0 k0_1 [(90000, Cs Bm.E 101 y.2)]) → N0 s') : Qs n a0 a1 c9 k0_0 k0_1 v10 L90000 = some t → Va (Am Ag.E a0) (Am Ag.E a1) AV.Cc (B5 Bm.E 90000 L90000) c9 v10 k0_0 k0_1 [(90000, Cs Bm.E 101 L90000)] R N0 := by
  unfold Qs Va
  refine An (fun _ => ?_) (fun _ => ?_)
  · refine Aq fun x70 h70 => ?_
    refine imp (A1 (Adn h70)) ?_
    refine imp E5 ?_
    refine imp Jq ?_
    iterate 7 refine imp Ai ?_
    refine Aq fun x71 h71 => ?_
    refine imp (A1 (Adn h71)) ?_
    refine imp E5 ?_
    refine imp Jq ?_
    iterate 7 refine imp Ai ?_
    refine Aq fun x77 h77 => ?_
    refine imp (A1 (Ad7 h77)) ?_
    refine imp Dk ?_
    refine An (fun _ => ?_) (fun _ => ?_)
    · exact fun hg => hN0 _ (Option.some.inj hg).symm _ (Az [(90000, 90000), (0, 0)] rfl rfl rfl (Aj (Au (E := Ag.E) _ false) (Aj (Au (E := Ag.E) _ false) (oR (oR (Aj (Dz (E := Bm.E) (id := 90000) (l' := L90000) rfl rfl) (oR (oR A6))))))) (A3 (Be (cs := [(Aa k0_0), (Aa k0_1)]) (ty := 93) rfl (show Al _ 0 = _ from (by first | rfl | (simp (disch := first | decide | assumption) only [lk])))) (A3 (Dy (E := Bm.E) (ty := 101) (l' := L90000) rfl (show Al _ 90000 = _ from (by first | rfl | (simp (disch := first | decide | assumption) only [lk])))) A0)))
    · refine imp (Es (show _ = some ((Aa (L90000.length : Int)), []) from Ji)) ?_
      refine imp Ai ?_
      refine An (fun _ => ?_) (fun _ => ?_)
      · refine Aq fun x78 h78 => ?_
        refine iq (AV.ptr 90000 ((((IntKind.wrap .i64 ((L90000.length : Int) - (1))) : Int).toNat) * 2 + 0)) (Lm (E := Bm.E) rfl h78) ?_
        refine iq (AV.ptr 90000 ((((IntKind.wrap .i64 ((L90000.length : Int) - (1))) : Int).toNat) * 2 + 1)) rfl ?_
        refine iq (Aa x78.To) (Nv (E := Bm.E) (l := L90000) (ty := 101) (o := 1) (I5 (ty := 101) (by first | rfl | (simp (disch := first | decide | assumption) only [lk])) (B7 h78).2) (B7 h78).2 rfl (by decide) rfl) ?_
        refine imp Ai ?_
        refine An (fun _ => ?_) (fun _ => ?_)
        · refine Aq fun x79 h79 => ?_
          refine iq (AV.ptr 90000 ((((IntKind.wrap .i64 ((L90000.length : Int) - (1))) : Int).toNat) * 2 + 0)) (Lm (E := Bm.E) rfl h79) ?_
          refine iq (AV.ptr 90000 ((((IntKind.wrap .i64 ((L90000.length : Int) - (1))) : Int).toNat) * 2 + 1)) rfl ?_
          refine imp (Zq (E := Bm.E) (l := L90000) (i := (((IntKind.wrap .i64 ((L90000.length : Int) - (1))) : Int).toNat)) (o := 1) (y := (⟨x79.B6, (IntKind.wrap .i64 (v10 + (1)))⟩ : Bm)) (ty := 101) (by kernel_rfl) (by kernel_rfl) rfl (by first | rfl | (simp (disch := first | decide | assumption) only [lk])) (B7 h79).2 rfl (by decide) rfl) ?_
          exact fun hg => hN0 _ (Option.some.inj hg).symm _ (Az [(90000, 90000), (0, 0)] rfl rfl rfl (Aj (Au (E := Ag.E) _ false) (Aj (Au (E := Ag.E) _ false) (oR (oR (Aj (Dz (E := Bm.E) (id := 90000) (l' := (L90000.set (((IntKind.wrap .i64 ((L90000.length : Int) - (1))) : Int).toNat) (⟨x79.B6, (IntKind.wrap .i64 (v10 + (1)))⟩ : Bm))) (by first | rfl | omega | (simp; done) | (simp; omega)) rfl) (oR (oR A6))))))) (A3 (Be (cs := [(Aa k0_0), (Aa k0_1)]) (ty := 93) rfl (show Al _ 0 = _ from (by first | rfl | (simp (disch := first | decide | assumption) only [lk])))) (A3 (Dy (E := Bm.E) (ty := 101) (l' := (L90000.set (((IntKind.wrap .i64 ((L90000.length : Int) - (1))) : Int).toNat) (⟨x79.B6, (IntKind.wrap .i64 (v10 + (1)))⟩ : Bm))) rfl (show Al _ 90000 = _ from (by first | rfl | (simp (disch := first | decide | assumption) only [lk])))) A0)))
        · refine iq (AV.agg [(Aa v10), (Aa (IntKind.wrap .i64 (v10 + (1))))]) rfl ?_
          refine imp (Dl (show _ = some ((Eu Bm.E 100234 ([(⟨v10, (IntKind.wrap .i64 (v10 + (1)))⟩ : Bm)] : List Bm)), [(100234, some ⟨Ay Bm.E ([(⟨v10, (IntKind.wrap .i64 (v10 + (1)))⟩ : Bm)] : List Bm), 101⟩)]) from rfl)) ?_
          refine Aq fun x81 h81 => ?_
          refine imp (Dl (show _ = some ((B5 Bm.E 100235 (L90000 ++ ([(⟨v10, (IntKind.wrap .i64 (v10 + (1)))⟩ : Bm)] : List Bm))), (Ip Bm.E 100235 90000 101 L90000 ([(⟨v10, (IntKind.wrap .i64 (v10 + (1)))⟩ : Bm)] : List Bm))) from (Ib (E := Bm.E) (l' := L90000) (xs := ([(⟨v10, (IntKind.wrap .i64 (v10 + (1)))⟩ : Bm)] : List Bm)) rfl rfl (Ez (E := Bm.E) (ty := 101) rfl rfl (by first | rfl | (simp (disch := first | decide | assumption) only [lk]))) (by first | assumption | simp) rfl (fun hne => Eq.trans (by first | rfl | (simp (disch := first | decide | assumption) only [lk])) (C1 hne)) h81))) ?_
          exact fun hg => hN0 _ (Option.some.inj hg).symm _ (Az [(90000, 100235), (0, 0)] rfl rfl rfl (Aj (Au (E := Ag.E) _ false) (Aj (Au (E := Ag.E) _ false) (oR (oR (Aj (Dz (E := Bm.E) (id := 100235) (l' := (L90000 ++ ([(⟨v10, (IntKind.wrap .i64 (v10 + (1)))⟩ : Bm)] : List Bm))) rfl rfl) (oR (oR A6))))))) (A3 (Be (cs := [(Aa k0_0), (Aa k0_1)]) (ty := 93) rfl (show Al _ 0 = _ from (by first | rfl | (simp (disch := first | decide | assumption) only [lk])))) (A3 (Dy (E := Bm.E) (ty := 101) (l' := (L90000 ++ ([(⟨v10, (IntKind.wrap .i64 (v10 + (1)))⟩ : Bm)] : List Bm))) rfl (show Al _ 100235 = _ from (by first | rfl | (simp (disch := first | decide | assumption) only [lk])))) A0)))
      · refine iq (AV.agg [(Aa v10), (Aa (IntKind.wrap .i64 (v10 + (1))))]) rfl ?_
        refine imp (Dl (show _ = some ((Eu Bm.E 100226 ([(⟨v10, (IntKind.wrap .i64 (v10 + (1)))⟩ : Bm)] : List Bm)), [(100226, some ⟨Ay Bm.E ([(⟨v10, (IntKind.wrap .i64 (v10 + (1)))⟩ : Bm)] : List Bm), 101⟩)]) from rfl)) ?_
        refine Aq fun x83 h83 => ?_
        refine imp (Dl (show _ = some ((B5 Bm.E 100227 (L90000 ++ ([(⟨v10, (IntKind.wrap .i64 (v10 + (1)))⟩ : Bm)] : List Bm))), (Ip Bm.E 100227 90000 101 L90000 ([(⟨v10, (IntKind.wrap .i64 (v10 + (1)))⟩ : Bm)] : List Bm))) from (Ib (E := Bm.E) (l' := L90000) (xs := ([(⟨v10, (IntKind.wrap .i64 (v10 + (1)))⟩ : Bm)] : List Bm)) rfl rfl (Ez (E := Bm.E) (ty := 101) rfl rfl (by first | rfl | (simp (disch := first | decide | assumption) only [lk]))) (by first | assumption | simp) rfl (fun hne => Eq.trans (by first | rfl | (simp (disch := first | decide | assumption) only [lk])) (C1 hne)) h83))) ?_
        exact fun hg => hN0 _ (Option.some.inj hg).symm _ (Az [(90000, 100227), (0, 0)] rfl rfl rfl (Aj (Au (E := Ag.E) _ false) (Aj (Au (E := Ag.E) _ false) (oR (oR (Aj (Dz (E := Bm.E) (id := 100227) (l' := (L90000 ++ ([(⟨v10, (IntKind.wrap .i64 (v10 + (1)))⟩ : Bm)] : List Bm))) rfl rfl) (oR (oR A6))))))) (A3 (Be (cs := [(Aa k0_0), (Aa k0_1)]) (ty := 93) rfl (show Al _ 0 = _ from (by first | rfl | (simp (disch := first | decide | assumption) only [lk])))) (A3 (Dy (E := Bm.E) (ty := 101) (l' := (L90000 ++ ([(⟨v10, (IntKind.wrap .i64 (v10 + (1)))⟩ : Bm)] : List Bm))) rfl (show Al _ 100227 = _ from (by first | rfl | (simp (disch := first | decide | assumption) only [lk])))) A0)))
  · exact fun hg => oF (hR _ (Option.some.inj hg).symm) (bE (E := Bm.E) (ty := 101) (l' := L90000) _ rfl (by first | rfl | (simp (disch := first | decide | assumption) only [lk])))
theorem gK (n : Nat) (a0 : List Ag) (a1 : List Ag) (c9 : Int) (k0_0 : Int) (k0_1 : Int) {t : Ni} (R : AV → Mem → Prop) (hR : ∀ r : Ni, t = r → ∀ u m, Cu ((Am Bm.E r)) u m → R u m) (k : Nat) (x : Int × List Bm) (hx : Ba (fun y : Int × List Bm => Qs n a0 a1 c9 k0_0 k0_1 y.1 y.2) k x = some t) {s : St} (hw : Bo KK 73 0 s (O1 (Am Ag.E a0) (Am Ag.E a1) AV.Cc (B5 Bm.E 90000 x.2) c9 x.1 k0_0 k0_1 [(90000, Cs Bm.E 101 x.2)])) : Ca pg KK 73 0 (.loop Ul) s (U2 R ) :=
  yX R  (σ := Nat × (Int × List Bm)) (fun z => Ba (fun y : Int × List Bm => Qs n a0 a1 c9 k0_0 k0_1 y.1 y.2) z.1 z.2 = some t) (fun z => (Am Ag.E a0)) (fun z => (Am Ag.E a1)) (fun z => AV.Cc) (fun z => (B5 Bm.E 90000 z.2.2)) (fun z => c9) (fun z => z.2.1) (fun z => k0_0) (fun z => k0_1) (fun z => [(90000, Cs Bm.E 101 z.2.2)]) (fun z => z.1) (by
    rintro ⟨k, y⟩ h
    cases k with
    | zero => exact (Bp h).elim
    | succ k =>
      obtain ⟨u, h1, h2, h3⟩ := Bq h
      exact iG n a0 a1 c9 k0_0 k0_1 y.1 y.2 R  _ (fun r e => hR r (h3 _ e).symm)  (fun y' e s' hw => ⟨(k, y'), h2 _ e, Nat.lt_succ_self k, hw⟩) h1) (k, x) hx hw
theorem tQ (n : Nat) (a0 : List Ag) (a1 : List Ag) (a2 : G7) {t : Ni} (R : AV → Mem → Prop) (hR : ∀ r : Ni, t = r → ∀ u m, Cu ((Am Bm.E r)) u m → R u m) : s9 n a0 a1 a2 = some t → s7 (Am Ag.E a0) (Am Ag.E a1) a2.Dg a2.C0 R := by
  unfold s9 s7
  refine Aq fun x40 h40 => ?_
  refine imp (A1 (Ach h40)) ?_
  refine imp E5 ?_
  iterate 2 refine imp Ai ?_
  exact fun hg => gK n a0 a1 x40.2 a2.Dg a2.C0 R  hR n _ hg (Az [(90000, 89500), (0, 0)] rfl rfl rfl (Aj (Au (E := Ag.E) _ false) (Aj (Au (E := Ag.E) _ false) (oR (oR (Aj F2 (oR (oR A6))))))) (A3 (Be (cs := [(Aa a2.Dg), (Aa a2.C0)]) (ty := 93) rfl (show Al _ 0 = _ from (by first | rfl | (simp (disch := first | decide | assumption) only [lk])))) (A3 M6 A0)))
theorem Ab4 {n : Nat} {a0 : List Ag} {a1 : List Ag} {a2 : G7} {t : Ni} (h : s9 n a0 a1 a2 = some t) : C3 pg KK.gl 149 [(Am Ag.E a0), (Am Ag.E a1), (AV.agg [(Aa a2.Dg), (Aa a2.C0)])] ((Am Bm.E t)) :=
  A5 (by first | rfl | simp [As, clean, Ak, En.Di]) (by first | rfl | simp [As, clean, Ak, En.Di]) (n9 (Am Ag.E a0) (Am Ag.E a1) a2.Dg a2.C0 _ (tQ n a0 a1 a2 (Cu ((Am Bm.E t))) (fun r e u m h => by rw [e]; exact h) h))
theorem y9 (n : Nat) (a0 : List Ag) (a1 : List Ag) (a2 : G7) {t : uO} (R : AV → Mem → Prop) (hR : ∀ r : uO, t = r → ∀ u m, Cu ((AV.tup [(Am Bm.E r.1), (Aa r.2)])) u m → R u m) : g88 n a0 a1 a2 = some t → F88 (Am Ag.E a0) (Am Ag.E a1) a2.Dg a2.C0 R := by
  unfold g88 F88
  refine imp (Dl (show _ = some ((Eu (Ko Ag.E) 6 ([a0, a1] : List (List Ag))), [(6, some ⟨Ay (Ko Ag.E) ([a0, a1] : List (List Ag)), 80⟩)]) from rfl)) ?_
  refine Aq fun x35 h35 => ?_
  refine imp (Er (Ej (Aw (O4 _ (Aw (Bw _ _) (Aw (Bw _ _) Dc))) (Aw (Rp (E := (Ko Ag.E)) (ty := 80) (l' := ([a0, a1] : List (List Ag))) _ (Ko.nf Ag.E) rfl (by first | rfl | (simp (disch := first | decide | assumption) only [lk]))) Dc)) (Adq h35) rfl)) ?_
  refine imp Ai ?_
  refine An (fun _ => ?_) (fun _ => ?_)
  · exact fun hg => D4 rfl (hR _ (Option.some.inj hg).symm) (Dp (Qe (E := Bm.E) _) (fS Bu))
  · refine iq (AV.agg [(Aa a2.Dg), (Aa a2.C0)]) (Ft (b := ⟨[(Aa a2.Dg), (Aa a2.C0)], 93⟩) (by first | rfl | (simp (disch := first | decide | assumption) only [lk])) rfl) ?_
    refine imp J0 ?_
    iterate 2 refine imp Ai ?_
    refine Aq fun x84 h84 => ?_
    refine imp (A1 (Ab4 h84)) ?_
    exact fun hg => D4 rfl (hR _ (Option.some.inj hg).symm) (Dp (Aai (E := Bm.E) _ _ false) (fS Bu))
theorem Ael {n : Nat} {a0 : List Ag} {a1 : List Ag} {a2 : G7} {t : uO} (h : g88 n a0 a1 a2 = some t) : C3 pg KK.gl 88 [(Am Ag.E a0), (Am Ag.E a1), (AV.agg [(Aa a2.Dg), (Aa a2.C0)])] ((AV.tup [(Am Bm.E t.1), (Aa t.2)])) :=
  A5 (by first | rfl | simp [As, clean, Ak, En.Di]) (by first | rfl | simp [As, clean, Ak, En.Di]) (uL (Am Ag.E a0) (Am Ag.E a1) a2.Dg a2.C0 _ (y9 n a0 a1 a2 (Cu ((AV.tup [(Am Bm.E t.1), (Aa t.2)]))) (fun r e u m h => by rw [e]; exact h) h))
theorem Aaq (n : Nat) (a0 : List Ag) (a1 : List Ag) (a2 : G7) {t : sP} (R : AV → Mem → Prop) (hR : ∀ r : sP, t = r → ∀ u m, Cu ((AV.tup [(Aa r.1), (Aa r.2)])) u m → R u m) : g27 n a0 a1 a2 = some t → F27 (Am Ag.E a0) (Am Ag.E a1) a2.Dg a2.C0 R := by
  unfold g27 F27
  refine Aq fun x85 h85 => ?_
  refine imp (A1 (Ael h85)) ?_
  refine imp E5 ?_
  refine imp Ai ?_
  refine An (fun _ => ?_) (fun _ => ?_)
  · exact fun hg => D4 rfl (hR _ (Option.some.inj hg).symm) (fS (fS Bu))
  · refine iq (Aa (x85.1.length : Int)) rfl ?_
    refine imp Ai ?_
    refine An (fun _ => ?_) (fun _ => ?_)
    · exact fun hg => D4 rfl (hR _ (Option.some.inj hg).symm) (fS (fS Bu))
    · refine Aq fun x86 h86 => ?_
      refine iq (AV.B8 [(Aa x86.B6), (Aa x86.To)] 0) (Bk (E := Bm.E) rfl h86) ?_
      refine iq (AV.B8 [(Aa x86.B6), (Aa x86.To)] 0) rfl ?_
      refine iq (Aa x86.B6) rfl ?_
      refine imp Ai ?_
      exact fun hg => D4 rfl (hR _ (Option.some.inj hg).symm) (fS (fS Bu))
theorem Afg {n : Nat} {a0 : List Ag} {a1 : List Ag} {a2 : G7} {t : sP} (h : g27 n a0 a1 a2 = some t) : C3 pg KK.gl 27 [(Am Ag.E a0), (Am Ag.E a1), (AV.agg [(Aa a2.Dg), (Aa a2.C0)])] ((AV.tup [(Aa t.1), (Aa t.2)])) :=
  A5 (by first | rfl | simp [As, clean, Ak, En.Di]) (by first | rfl | simp [As, clean, Ak, En.Di]) (tU (Am Ag.E a0) (Am Ag.E a1) a2.Dg a2.C0 _ (Aaq n a0 a1 a2 (Cu ((AV.tup [(Aa t.1), (Aa t.2)]))) (fun r e u m h => by rw [e]; exact h) h))
theorem aJ (n : Nat) (c2 : Int) (c10_0 : Int) (c10_1 : Int) (c10_2 : Int) (c10_3 : Int) (c10_4 : Int) (c10_5 : Int) (c10_6 : Int) (c10_7 : Int) (c10_8 : Int) (c10_9 : Int) (c10_10 : Int) (c10_11 : Int) (c10_12 : Int) (c10_13 : Int) (c10_14 : Int) (c10_15 : Int) (v11 : Int) (c14_0 : Int) (c14_1 : Int) (c14_2 : Int) (c14_3 : Int) (w15 : Int) {t : (Int) ⊕ ((Int) ⊕ Gi)} (R : AV → Mem → Prop) (N0 : St → Prop) (N1 : St → Prop) (hR : ∀ r : Gi, t = (.inr (.inr r)) → ∀ u m, Cu ((Aa r)) u m → R u m) (hN0 : ∀ y : Int, t = (.inr (.inl y)) → ∀ s' : St, Bo KK 55 0 s' (Py c2 c10_0 c10_1 c10_2 c10_3 c10_4 c10_5 c10_6 c10_7 c10_8 c10_9 c10_10 c10_11 c10_12 c10_13 c10_14 c10_15 y c10_0 c10_1 c10_2 c10_3 c10_4 c10_5 c10_6 c10_7 c10_8 c10_9 c10_10 c10_11 c10_12 c10_13 c10_14 c10_15 []) → N0 s') (hN1 : ∀ y : Int, t = (.inl y) → ∀ s' : St, Bo KK 55 0 s' (Lj c2 c10_0 c10_1 c10_2 c10_3 c10_4 c10_5 c10_6 c10_7 c10_8 c10_9 c10_10 c10_11 c10_12 c10_13 c10_14 c10_15 v11 c14_0 c14_1 c14_2 c14_3 y c10_0 c10_1 c10_2 c10_3 c10_4 c10_5 c10_6 c10_7 c10_8 c10_9 c10_10 c10_11 c10_12 c10_13 c10_14 c10_15 []) → N1 s') : Fm n c2 c10_0 c10_1 c10_2 c10_3 c10_4 c10_5 c10_6 c10_7 c10_8 c10_9 c10_10 c10_11 c10_12 c10_13 c10_14 c10_15 v11 c14_0 c14_1 c14_2 c14_3 w15 = some t → P8 c2 c10_0 c10_1 c10_2 c10_3 c10_4 c10_5 c10_6 c10_7 c10_8 c10_9 c10_10 c10_11 c10_12 c10_13 c10_14 c10_15 v11 c14_0 c14_1 c14_2 c14_3 w15 c10_0 c10_1 c10_2 c10_3 c10_4 c10_5 c10_6 c10_7 c10_8 c10_9 c10_10 c10_11 c10_12 c10_13 c10_14 c10_15 [] R N0 N1 := by
  unfold Fm P8
  refine An (fun _ => ?_) (fun _ => ?_)
  · refine Aq fun x88 h88 => ?_
    refine iq (Aa x88) (Uy (E := A2) (l := ([c14_0, c14_1, c14_2, c14_3] : List Int)) (len := 4) (e := 3) (by kernel_rfl) (by kernel_rfl) (by kernel_rfl) rfl ⟨rfl, rfl⟩ h88 rfl) ?_
    refine imp Ai ?_
    refine An (fun _ => ?_) (fun _ => ?_)
    · exact Df hR rfl rfl
    · refine An (fun _ => ?_) (fun _ => ?_)
      · exact Df hR rfl rfl
      · exact fun hg => hN1 _ (Option.some.inj hg).symm _ (Az [(0, 0)] rfl rfl rfl (oR (oR (oR (oR (oR (oR A6)))))) (A3 (Be (cs := [(Aa c10_0), (Aa c10_1), (Aa c10_2), (Aa c10_3), (Aa c10_4), (Aa c10_5), (Aa c10_6), (Aa c10_7), (Aa c10_8), (Aa c10_9), (Aa c10_10), (Aa c10_11), (Aa c10_12), (Aa c10_13), (Aa c10_14), (Aa c10_15)]) (ty := 25) rfl (show Al _ 0 = _ from (by first | rfl | (simp (disch := first | decide | assumption) only [lk])))) A0))
  · exact fun hg => hN0 _ (Option.some.inj hg).symm _ (Az [(0, 0)] rfl rfl rfl (oR (oR (oR (oR A6)))) (A3 (Be (cs := [(Aa c10_0), (Aa c10_1), (Aa c10_2), (Aa c10_3), (Aa c10_4), (Aa c10_5), (Aa c10_6), (Aa c10_7), (Aa c10_8), (Aa c10_9), (Aa c10_10), (Aa c10_11), (Aa c10_12), (Aa c10_13), (Aa c10_14), (Aa c10_15)]) (ty := 25) rfl (show Al _ 0 = _ from (by first | rfl | (simp (disch := first | decide | assumption) only [lk])))) A0))
theorem Z0 (n : Nat) (c2 : Int) (c10_0 : Int) (c10_1 : Int) (c10_2 : Int) (c10_3 : Int) (c10_4 : Int) (c10_5 : Int) (c10_6 : Int) (c10_7 : Int) (c10_8 : Int) (c10_9 : Int) (c10_10 : Int) (c10_11 : Int) (c10_12 : Int) (c10_13 : Int) (c10_14 : Int) (c10_15 : Int) (v11 : Int) (c14_0 : Int) (c14_1 : Int) (c14_2 : Int) (c14_3 : Int) {t : ((Int) ⊕ Gi)} (R : AV → Mem → Prop) (N0 : St → Prop) (hR : ∀ r : Gi, t = (.inr r) → ∀ u m, Cu ((Aa r)) u m → R u m) (hN0 : ∀ y : Int, t = (.inl y) → ∀ s' : St, Bo KK 55 0 s' (Py c2 c10_0 c10_1 c10_2 c10_3 c10_4 c10_5 c10_6 c10_7 c10_8 c10_9 c10_10 c10_11 c10_12 c10_13 c10_14 c10_15 y c10_0 c10_1 c10_2 c10_3 c10_4 c10_5 c10_6 c10_7 c10_8 c10_9 c10_10 c10_11 c10_12 c10_13 c10_14 c10_15 []) → N0 s') (k : Nat) (x : Int) (hx : Ba (fun y : Int => Fm n c2 c10_0 c10_1 c10_2 c10_3 c10_4 c10_5 c10_6 c10_7 c10_8 c10_9 c10_10 c10_11 c10_12 c10_13 c10_14 c10_15 v11 c14_0 c14_1 c14_2 c14_3 y) k x = some t) {s : St} (hw : Bo KK 55 0 s (Lj c2 c10_0 c10_1 c10_2 c10_3 c10_4 c10_5 c10_6 c10_7 c10_8 c10_9 c10_10 c10_11 c10_12 c10_13 c10_14 c10_15 v11 c14_0 c14_1 c14_2 c14_3 x c10_0 c10_1 c10_2 c10_3 c10_4 c10_5 c10_6 c10_7 c10_8 c10_9 c10_10 c10_11 c10_12 c10_13 c10_14 c10_15 [])) : Ca pg KK 55 0 (.loop Qj) s (Qi R N0) :=
  tL R N0 (σ := Nat × (Int)) (fun z => Ba (fun y : Int => Fm n c2 c10_0 c10_1 c10_2 c10_3 c10_4 c10_5 c10_6 c10_7 c10_8 c10_9 c10_10 c10_11 c10_12 c10_13 c10_14 c10_15 v11 c14_0 c14_1 c14_2 c14_3 y) z.1 z.2 = some t) (fun z => c2) (fun z => c10_0) (fun z => c10_1) (fun z => c10_2) (fun z => c10_3) (fun z => c10_4) (fun z => c10_5) (fun z => c10_6) (fun z => c10_7) (fun z => c10_8) (fun z => c10_9) (fun z => c10_10) (fun z => c10_11) (fun z => c10_12) (fun z => c10_13) (fun z => c10_14) (fun z => c10_15) (fun z => v11) (fun z => c14_0) (fun z => c14_1) (fun z => c14_2) (fun z => c14_3) (fun z => z.2) (fun z => c10_0) (fun z => c10_1) (fun z => c10_2) (fun z => c10_3) (fun z => c10_4) (fun z => c10_5) (fun z => c10_6) (fun z => c10_7) (fun z => c10_8) (fun z => c10_9) (fun z => c10_10) (fun z => c10_11) (fun z => c10_12) (fun z => c10_13) (fun z => c10_14) (fun z => c10_15) (fun z => []) (fun z => z.1) (by
    rintro ⟨k, y⟩ h
    cases k with
    | zero => exact (Bp h).elim
    | succ k =>
      obtain ⟨u, h1, h2, h3⟩ := Bq h
      exact aJ n c2 c10_0 c10_1 c10_2 c10_3 c10_4 c10_5 c10_6 c10_7 c10_8 c10_9 c10_10 c10_11 c10_12 c10_13 c10_14 c10_15 v11 c14_0 c14_1 c14_2 c14_3 y R N0 _ (fun r e => hR r (h3 _ e).symm) (fun y' e => hN0 y' (h3 _ e).symm) (fun y' e s' hw => ⟨(k, y'), h2 _ e, Nat.lt_succ_self k, hw⟩) h1) (k, x) hx hw
theorem Wq (n : Nat) (c2 : Int) (v26 : Int) (w29 : Int) (c10_0 : Int) (c10_1 : Int) (c10_2 : Int) (c10_3 : Int) (c10_4 : Int) (c10_5 : Int) (c10_6 : Int) (c10_7 : Int) (c10_8 : Int) (c10_9 : Int) (c10_10 : Int) (c10_11 : Int) (c10_12 : Int) (c10_13 : Int) (c10_14 : Int) (c10_15 : Int) (u32 : Int) {t : (Int) ⊕ ((Int) ⊕ ((Int) ⊕ Gi))} (R : AV → Mem → Prop) (N0 : St → Prop) (N1 : St → Prop) (N2 : St → Prop) (hR : ∀ r : Gi, t = (.inr (.inr (.inr r))) → ∀ u m, Cu ((Aa r)) u m → R u m) (hN0 : ∀ y : Int, t = (.inr (.inr (.inl y))) → ∀ s' : St, Bo KK 55 0 s' (Ma c2 y c10_0 c10_1 c10_2 c10_3 c10_4 c10_5 c10_6 c10_7 c10_8 c10_9 c10_10 c10_11 c10_12 c10_13 c10_14 c10_15 []) → N0 s') (hN1 : ∀ y : Int, t = (.inr (.inl y)) → ∀ s' : St, Bo KK 55 0 s' (H8 c2 v26 v26 y c10_0 c10_1 c10_2 c10_3 c10_4 c10_5 c10_6 c10_7 c10_8 c10_9 c10_10 c10_11 c10_12 c10_13 c10_14 c10_15 []) → N1 s') (hN2 : ∀ y : Int, t = (.inl y) → ∀ s' : St, Bo KK 55 0 s' (Hh c2 v26 w29 v26 w29 y c10_0 c10_1 c10_2 c10_3 c10_4 c10_5 c10_6 c10_7 c10_8 c10_9 c10_10 c10_11 c10_12 c10_13 c10_14 c10_15 []) → N2 s') : D3 n c2 v26 w29 c10_0 c10_1 c10_2 c10_3 c10_4 c10_5 c10_6 c10_7 c10_8 c10_9 c10_10 c10_11 c10_12 c10_13 c10_14 c10_15 u32 = some t → Ld c2 v26 w29 v26 w29 u32 c10_0 c10_1 c10_2 c10_3 c10_4 c10_5 c10_6 c10_7 c10_8 c10_9 c10_10 c10_11 c10_12 c10_13 c10_14 c10_15 [] R N0 N1 N2 := by
  unfold D3 Ld
  refine An (fun _ => ?_) (fun _ => ?_)
  · refine Aq fun x89 h89 => ?_
    refine iq (AV.ptr 0 (((v26 : Int).toNat) * 4 + 0)) (I8 (l := ([(⟨c10_0, c10_1, c10_2, c10_3⟩ : Dw), (⟨c10_4, c10_5, c10_6, c10_7⟩ : Dw), (⟨c10_8, c10_9, c10_10, c10_11⟩ : Dw), (⟨c10_12, c10_13, c10_14, c10_15⟩ : Dw)] : List Dw)) (len := 4) rfl h89) ?_
    refine Aq fun x90 h90 => ?_
    refine iq (AV.ptr 0 _) (Jm (l := ([x89.c0, x89.c1, x89.c2, x89.c3] : List Int)) (len := 4) rfl h90) ?_
    refine iq (Aa x90) (Lg (E := Dw.E) (E2 := A2) (l := ([(⟨c10_0, c10_1, c10_2, c10_3⟩ : Dw), (⟨c10_4, c10_5, c10_6, c10_7⟩ : Dw), (⟨c10_8, c10_9, c10_10, c10_11⟩ : Dw), (⟨c10_12, c10_13, c10_14, c10_15⟩ : Dw)] : List Dw)) (l2 := ([x89.c0, x89.c1, x89.c2, x89.c3] : List Int)) (ty := 25) (by first | rfl | (simp (disch := first | decide | assumption) only [lk])) (B7 h89).2 rfl rfl (B7 h90).2 rfl) ?_
    refine imp Ai ?_
    refine Aq fun x91 h91 => ?_
    refine iq (AV.ptr 0 (((v26 : Int).toNat) * 4 + 0)) (I8 (l := ([(⟨c10_0, c10_1, c10_2, c10_3⟩ : Dw), (⟨c10_4, c10_5, c10_6, c10_7⟩ : Dw), (⟨c10_8, c10_9, c10_10, c10_11⟩ : Dw), (⟨c10_12, c10_13, c10_14, c10_15⟩ : Dw)] : List Dw)) (len := 4) rfl h91) ?_
    refine Aq fun x92 h92 => ?_
    refine iq (AV.ptr 0 _) (Jm (l := ([x91.c0, x91.c1, x91.c2, x91.c3] : List Int)) (len := 4) rfl h92) ?_
    refine iq (Aa x92) (Lg (E := Dw.E) (E2 := A2) (l := ([(⟨c10_0, c10_1, c10_2, c10_3⟩ : Dw), (⟨c10_4, c10_5, c10_6, c10_7⟩ : Dw), (⟨c10_8, c10_9, c10_10, c10_11⟩ : Dw), (⟨c10_12, c10_13, c10_14, c10_15⟩ : Dw)] : List Dw)) (l2 := ([x91.c0, x91.c1, x91.c2, x91.c3] : List Int)) (ty := 25) (by first | rfl | (simp (disch := first | decide | assumption) only [lk])) (B7 h91).2 rfl rfl (B7 h92).2 rfl) ?_
    refine imp Ai ?_
    refine Aq fun x93 h93 => ?_
    refine iq (AV.ptr 0 (((w29 : Int).toNat) * 4 + 0)) (I8 (l := ([(⟨c10_0, c10_1, c10_2, c10_3⟩ : Dw), (⟨c10_4, c10_5, c10_6, c10_7⟩ : Dw), (⟨c10_8, c10_9, c10_10, c10_11⟩ : Dw), (⟨c10_12, c10_13, c10_14, c10_15⟩ : Dw)] : List Dw)) (len := 4) rfl h93) ?_
    refine Aq fun x94 h94 => ?_
    refine iq (AV.ptr 0 _) (Jm (l := ([x93.c0, x93.c1, x93.c2, x93.c3] : List Int)) (len := 4) rfl h94) ?_
    refine iq (Aa x94) (Lg (E := Dw.E) (E2 := A2) (l := ([(⟨c10_0, c10_1, c10_2, c10_3⟩ : Dw), (⟨c10_4, c10_5, c10_6, c10_7⟩ : Dw), (⟨c10_8, c10_9, c10_10, c10_11⟩ : Dw), (⟨c10_12, c10_13, c10_14, c10_15⟩ : Dw)] : List Dw)) (l2 := ([x93.c0, x93.c1, x93.c2, x93.c3] : List Int)) (ty := 25) (by first | rfl | (simp (disch := first | decide | assumption) only [lk])) (B7 h93).2 rfl rfl (B7 h94).2 rfl) ?_
    refine imp Ai ?_
    refine An (fun _ => ?_) (fun _ => ?_)
    · exact Df hR rfl rfl
    · exact fun hg => hN2 _ (Option.some.inj hg).symm _ (Az [(0, 0)] rfl rfl rfl (oR (oR (oR (oR (oR (oR (oR A6))))))) (A3 (Be (cs := [(Aa c10_0), (Aa c10_1), (Aa c10_2), (Aa c10_3), (Aa c10_4), (Aa c10_5), (Aa c10_6), (Aa c10_7), (Aa c10_8), (Aa c10_9), (Aa c10_10), (Aa c10_11), (Aa c10_12), (Aa c10_13), (Aa c10_14), (Aa c10_15)]) (ty := 25) rfl (show Al _ 0 = _ from (by first | rfl | (simp (disch := first | decide | assumption) only [lk])))) A0))
  · exact fun hg => hN1 _ (Option.some.inj hg).symm _ (Az [(0, 0)] rfl rfl rfl (oR (oR (oR (oR (oR A6))))) (A3 (Be (cs := [(Aa c10_0), (Aa c10_1), (Aa c10_2), (Aa c10_3), (Aa c10_4), (Aa c10_5), (Aa c10_6), (Aa c10_7), (Aa c10_8), (Aa c10_9), (Aa c10_10), (Aa c10_11), (Aa c10_12), (Aa c10_13), (Aa c10_14), (Aa c10_15)]) (ty := 25) rfl (show Al _ 0 = _ from (by first | rfl | (simp (disch := first | decide | assumption) only [lk])))) A0))
theorem V7 (n : Nat) (c2 : Int) (v26 : Int) (w29 : Int) (c10_0 : Int) (c10_1 : Int) (c10_2 : Int) (c10_3 : Int) (c10_4 : Int) (c10_5 : Int) (c10_6 : Int) (c10_7 : Int) (c10_8 : Int) (c10_9 : Int) (c10_10 : Int) (c10_11 : Int) (c10_12 : Int) (c10_13 : Int) (c10_14 : Int) (c10_15 : Int) {t : ((Int) ⊕ ((Int) ⊕ Gi))} (R : AV → Mem → Prop) (N0 : St → Prop) (N1 : St → Prop) (hR : ∀ r : Gi, t = (.inr (.inr r)) → ∀ u m, Cu ((Aa r)) u m → R u m) (hN0 : ∀ y : Int, t = (.inr (.inl y)) → ∀ s' : St, Bo KK 55 0 s' (Ma c2 y c10_0 c10_1 c10_2 c10_3 c10_4 c10_5 c10_6 c10_7 c10_8 c10_9 c10_10 c10_11 c10_12 c10_13 c10_14 c10_15 []) → N0 s') (hN1 : ∀ y : Int, t = (.inl y) → ∀ s' : St, Bo KK 55 0 s' (H8 c2 v26 v26 y c10_0 c10_1 c10_2 c10_3 c10_4 c10_5 c10_6 c10_7 c10_8 c10_9 c10_10 c10_11 c10_12 c10_13 c10_14 c10_15 []) → N1 s') (k : Nat) (x : Int) (hx : Ba (fun y : Int => D3 n c2 v26 w29 c10_0 c10_1 c10_2 c10_3 c10_4 c10_5 c10_6 c10_7 c10_8 c10_9 c10_10 c10_11 c10_12 c10_13 c10_14 c10_15 y) k x = some t) {s : St} (hw : Bo KK 55 0 s (Hh c2 v26 w29 v26 w29 x c10_0 c10_1 c10_2 c10_3 c10_4 c10_5 c10_6 c10_7 c10_8 c10_9 c10_10 c10_11 c10_12 c10_13 c10_14 c10_15 [])) : Ca pg KK 55 0 (.loop La) s (Li R N0 N1) :=
  iQ R N0 N1 (σ := Nat × (Int)) (fun z => Ba (fun y : Int => D3 n c2 v26 w29 c10_0 c10_1 c10_2 c10_3 c10_4 c10_5 c10_6 c10_7 c10_8 c10_9 c10_10 c10_11 c10_12 c10_13 c10_14 c10_15 y) z.1 z.2 = some t) (fun z => c2) (fun z => v26) (fun z => w29) (fun z => v26) (fun z => w29) (fun z => z.2) (fun z => c10_0) (fun z => c10_1) (fun z => c10_2) (fun z => c10_3) (fun z => c10_4) (fun z => c10_5) (fun z => c10_6) (fun z => c10_7) (fun z => c10_8) (fun z => c10_9) (fun z => c10_10) (fun z => c10_11) (fun z => c10_12) (fun z => c10_13) (fun z => c10_14) (fun z => c10_15) (fun z => []) (fun z => z.1) (by
    rintro ⟨k, y⟩ h
    cases k with
    | zero => exact (Bp h).elim
    | succ k =>
      obtain ⟨u, h1, h2, h3⟩ := Bq h
      exact Wq n c2 v26 w29 c10_0 c10_1 c10_2 c10_3 c10_4 c10_5 c10_6 c10_7 c10_8 c10_9 c10_10 c10_11 c10_12 c10_13 c10_14 c10_15 y R N0 N1 _ (fun r e => hR r (h3 _ e).symm) (fun y' e => hN0 y' (h3 _ e).symm) (fun y' e => hN1 y' (h3 _ e).symm) (fun y' e s' hw => ⟨(k, y'), h2 _ e, Nat.lt_succ_self k, hw⟩) h1) (k, x) hx hw
theorem aV (n : Nat) (c2 : Int) (v26 : Int) (c10_0 : Int) (c10_1 : Int) (c10_2 : Int) (c10_3 : Int) (c10_4 : Int) (c10_5 : Int) (c10_6 : Int) (c10_7 : Int) (c10_8 : Int) (c10_9 : Int) (c10_10 : Int) (c10_11 : Int) (c10_12 : Int) (c10_13 : Int) (c10_14 : Int) (c10_15 : Int) (w29 : Int) {t : (Int) ⊕ ((Int) ⊕ Gi)} (R : AV → Mem → Prop) (N0 : St → Prop) (N1 : St → Prop) (hR : ∀ r : Gi, t = (.inr (.inr r)) → ∀ u m, Cu ((Aa r)) u m → R u m) (hN0 : ∀ y : Int, t = (.inr (.inl y)) → ∀ s' : St, Bo KK 55 0 s' (Ma c2 y c10_0 c10_1 c10_2 c10_3 c10_4 c10_5 c10_6 c10_7 c10_8 c10_9 c10_10 c10_11 c10_12 c10_13 c10_14 c10_15 []) → N0 s') (hN1 : ∀ y : Int, t = (.inl y) → ∀ s' : St, Bo KK 55 0 s' (H8 c2 v26 v26 y c10_0 c10_1 c10_2 c10_3 c10_4 c10_5 c10_6 c10_7 c10_8 c10_9 c10_10 c10_11 c10_12 c10_13 c10_14 c10_15 []) → N1 s') : E4 n c2 v26 c10_0 c10_1 c10_2 c10_3 c10_4 c10_5 c10_6 c10_7 c10_8 c10_9 c10_10 c10_11 c10_12 c10_13 c10_14 c10_15 w29 = some t → Qd c2 v26 v26 w29 c10_0 c10_1 c10_2 c10_3 c10_4 c10_5 c10_6 c10_7 c10_8 c10_9 c10_10 c10_11 c10_12 c10_13 c10_14 c10_15 [] R N0 N1 := by
  unfold E4 Qd
  refine An (fun _ => ?_) (fun _ => ?_)
  · exact fun hg => V7 n c2 v26 w29 c10_0 c10_1 c10_2 c10_3 c10_4 c10_5 c10_6 c10_7 c10_8 c10_9 c10_10 c10_11 c10_12 c10_13 c10_14 c10_15 R N0 N1 hR hN0 hN1 n _ hg (Az [(0, 0)] rfl rfl rfl (oR (oR (oR (oR (oR (oR (oR A6))))))) (A3 (Be (cs := [(Aa c10_0), (Aa c10_1), (Aa c10_2), (Aa c10_3), (Aa c10_4), (Aa c10_5), (Aa c10_6), (Aa c10_7), (Aa c10_8), (Aa c10_9), (Aa c10_10), (Aa c10_11), (Aa c10_12), (Aa c10_13), (Aa c10_14), (Aa c10_15)]) (ty := 25) rfl (show Al _ 0 = _ from (by first | rfl | (simp (disch := first | decide | assumption) only [lk])))) A0))
  · exact fun hg => hN0 _ (Option.some.inj hg).symm _ (Az [(0, 0)] rfl rfl rfl (oR (oR (oR A6))) (A3 (Be (cs := [(Aa c10_0), (Aa c10_1), (Aa c10_2), (Aa c10_3), (Aa c10_4), (Aa c10_5), (Aa c10_6), (Aa c10_7), (Aa c10_8), (Aa c10_9), (Aa c10_10), (Aa c10_11), (Aa c10_12), (Aa c10_13), (Aa c10_14), (Aa c10_15)]) (ty := 25) rfl (show Al _ 0 = _ from (by first | rfl | (simp (disch := first | decide | assumption) only [lk])))) A0))
theorem aG (n : Nat) (c2 : Int) (v26 : Int) (c10_0 : Int) (c10_1 : Int) (c10_2 : Int) (c10_3 : Int) (c10_4 : Int) (c10_5 : Int) (c10_6 : Int) (c10_7 : Int) (c10_8 : Int) (c10_9 : Int) (c10_10 : Int) (c10_11 : Int) (c10_12 : Int) (c10_13 : Int) (c10_14 : Int) (c10_15 : Int) {t : ((Int) ⊕ Gi)} (R : AV → Mem → Prop) (N0 : St → Prop) (hR : ∀ r : Gi, t = (.inr r) → ∀ u m, Cu ((Aa r)) u m → R u m) (hN0 : ∀ y : Int, t = (.inl y) → ∀ s' : St, Bo KK 55 0 s' (Ma c2 y c10_0 c10_1 c10_2 c10_3 c10_4 c10_5 c10_6 c10_7 c10_8 c10_9 c10_10 c10_11 c10_12 c10_13 c10_14 c10_15 []) → N0 s') (k : Nat) (x : Int) (hx : Ba (fun y : Int => E4 n c2 v26 c10_0 c10_1 c10_2 c10_3 c10_4 c10_5 c10_6 c10_7 c10_8 c10_9 c10_10 c10_11 c10_12 c10_13 c10_14 c10_15 y) k x = some t) {s : St} (hw : Bo KK 55 0 s (H8 c2 v26 v26 x c10_0 c10_1 c10_2 c10_3 c10_4 c10_5 c10_6 c10_7 c10_8 c10_9 c10_10 c10_11 c10_12 c10_13 c10_14 c10_15 [])) : Ca pg KK 55 0 (.loop K5) s (P9 R N0) :=
  xA R N0 (σ := Nat × (Int)) (fun z => Ba (fun y : Int => E4 n c2 v26 c10_0 c10_1 c10_2 c10_3 c10_4 c10_5 c10_6 c10_7 c10_8 c10_9 c10_10 c10_11 c10_12 c10_13 c10_14 c10_15 y) z.1 z.2 = some t) (fun z => c2) (fun z => v26) (fun z => v26) (fun z => z.2) (fun z => c10_0) (fun z => c10_1) (fun z => c10_2) (fun z => c10_3) (fun z => c10_4) (fun z => c10_5) (fun z => c10_6) (fun z => c10_7) (fun z => c10_8) (fun z => c10_9) (fun z => c10_10) (fun z => c10_11) (fun z => c10_12) (fun z => c10_13) (fun z => c10_14) (fun z => c10_15) (fun z => []) (fun z => z.1) (by
    rintro ⟨k, y⟩ h
    cases k with
    | zero => exact (Bp h).elim
    | succ k =>
      obtain ⟨u, h1, h2, h3⟩ := Bq h
      exact aV n c2 v26 c10_0 c10_1 c10_2 c10_3 c10_4 c10_5 c10_6 c10_7 c10_8 c10_9 c10_10 c10_11 c10_12 c10_13 c10_14 c10_15 y R N0 _ (fun r e => hR r (h3 _ e).symm) (fun y' e => hN0 y' (h3 _ e).symm) (fun y' e s' hw => ⟨(k, y'), h2 _ e, Nat.lt_succ_self k, hw⟩) h1) (k, x) hx hw
theorem n4 (n : Nat) (c2 : Int) (c10_0 : Int) (c10_1 : Int) (c10_2 : Int) (c10_3 : Int) (c10_4 : Int) (c10_5 : Int) (c10_6 : Int) (c10_7 : Int) (c10_8 : Int) (c10_9 : Int) (c10_10 : Int) (c10_11 : Int) (c10_12 : Int) (c10_13 : Int) (c10_14 : Int) (c10_15 : Int) (v26 : Int) {t : (Int) ⊕ Gi} (R : AV → Mem → Prop) (N0 : St → Prop) (hR : ∀ r : Gi, t = (.inr r) → ∀ u m, Cu ((Aa r)) u m → R u m) (hN0 : ∀ y : Int, t = (.inl y) → ∀ s' : St, Bo KK 55 0 s' (Ma c2 y c10_0 c10_1 c10_2 c10_3 c10_4 c10_5 c10_6 c10_7 c10_8 c10_9 c10_10 c10_11 c10_12 c10_13 c10_14 c10_15 []) → N0 s') : Hd n c2 c10_0 c10_1 c10_2 c10_3 c10_4 c10_5 c10_6 c10_7 c10_8 c10_9 c10_10 c10_11 c10_12 c10_13 c10_14 c10_15 v26 = some t → dS c2 v26 c10_0 c10_1 c10_2 c10_3 c10_4 c10_5 c10_6 c10_7 c10_8 c10_9 c10_10 c10_11 c10_12 c10_13 c10_14 c10_15 [] R N0 := by
  unfold Hd dS
  refine An (fun _ => ?_) (fun _ => ?_)
  · exact fun hg => aG n c2 v26 c10_0 c10_1 c10_2 c10_3 c10_4 c10_5 c10_6 c10_7 c10_8 c10_9 c10_10 c10_11 c10_12 c10_13 c10_14 c10_15 R N0 hR hN0 n _ hg (Az [(0, 0)] rfl rfl rfl (oR (oR (oR (oR (oR A6))))) (A3 (Be (cs := [(Aa c10_0), (Aa c10_1), (Aa c10_2), (Aa c10_3), (Aa c10_4), (Aa c10_5), (Aa c10_6), (Aa c10_7), (Aa c10_8), (Aa c10_9), (Aa c10_10), (Aa c10_11), (Aa c10_12), (Aa c10_13), (Aa c10_14), (Aa c10_15)]) (ty := 25) rfl (show Al _ 0 = _ from (by first | rfl | (simp (disch := first | decide | assumption) only [lk])))) A0))
  · exact Df hR rfl rfl
theorem pL (n : Nat) (c2 : Int) (c10_0 : Int) (c10_1 : Int) (c10_2 : Int) (c10_3 : Int) (c10_4 : Int) (c10_5 : Int) (c10_6 : Int) (c10_7 : Int) (c10_8 : Int) (c10_9 : Int) (c10_10 : Int) (c10_11 : Int) (c10_12 : Int) (c10_13 : Int) (c10_14 : Int) (c10_15 : Int) {t : Gi} (R : AV → Mem → Prop) (hR : ∀ r : Gi, t = r → ∀ u m, Cu ((Aa r)) u m → R u m) (k : Nat) (x : Int) (hx : Ba (fun y : Int => Hd n c2 c10_0 c10_1 c10_2 c10_3 c10_4 c10_5 c10_6 c10_7 c10_8 c10_9 c10_10 c10_11 c10_12 c10_13 c10_14 c10_15 y) k x = some t) {s : St} (hw : Bo KK 55 0 s (Ma c2 x c10_0 c10_1 c10_2 c10_3 c10_4 c10_5 c10_6 c10_7 c10_8 c10_9 c10_10 c10_11 c10_12 c10_13 c10_14 c10_15 [])) : Ca pg KK 55 0 (.loop Tf) s (bZ R ) :=
  Ac2 R  (σ := Nat × (Int)) (fun z => Ba (fun y : Int => Hd n c2 c10_0 c10_1 c10_2 c10_3 c10_4 c10_5 c10_6 c10_7 c10_8 c10_9 c10_10 c10_11 c10_12 c10_13 c10_14 c10_15 y) z.1 z.2 = some t) (fun z => c2) (fun z => z.2) (fun z => c10_0) (fun z => c10_1) (fun z => c10_2) (fun z => c10_3) (fun z => c10_4) (fun z => c10_5) (fun z => c10_6) (fun z => c10_7) (fun z => c10_8) (fun z => c10_9) (fun z => c10_10) (fun z => c10_11) (fun z => c10_12) (fun z => c10_13) (fun z => c10_14) (fun z => c10_15) (fun z => []) (fun z => z.1) (by
    rintro ⟨k, y⟩ h
    cases k with
    | zero => exact (Bp h).elim
    | succ k =>
      obtain ⟨u, h1, h2, h3⟩ := Bq h
      exact n4 n c2 c10_0 c10_1 c10_2 c10_3 c10_4 c10_5 c10_6 c10_7 c10_8 c10_9 c10_10 c10_11 c10_12 c10_13 c10_14 c10_15 y R  _ (fun r e => hR r (h3 _ e).symm)  (fun y' e s' hw => ⟨(k, y'), h2 _ e, Nat.lt_succ_self k, hw⟩) h1) (k, x) hx hw
theorem kV (n : Nat) (c2 : Int) (c10_0 : Int) (c10_1 : Int) (c10_2 : Int) (c10_3 : Int) (c10_4 : Int) (c10_5 : Int) (c10_6 : Int) (c10_7 : Int) (c10_8 : Int) (c10_9 : Int) (c10_10 : Int) (c10_11 : Int) (c10_12 : Int) (c10_13 : Int) (c10_14 : Int) (c10_15 : Int) (v11 : Int) {t : (Int) ⊕ Gi} (R : AV → Mem → Prop) (N0 : St → Prop) (hR : ∀ r : Gi, t = (.inr r) → ∀ u m, Cu ((Aa r)) u m → R u m) (hN0 : ∀ y : Int, t = (.inl y) → ∀ s' : St, Bo KK 55 0 s' (Py c2 c10_0 c10_1 c10_2 c10_3 c10_4 c10_5 c10_6 c10_7 c10_8 c10_9 c10_10 c10_11 c10_12 c10_13 c10_14 c10_15 y c10_0 c10_1 c10_2 c10_3 c10_4 c10_5 c10_6 c10_7 c10_8 c10_9 c10_10 c10_11 c10_12 c10_13 c10_14 c10_15 []) → N0 s') : Lx n c2 c10_0 c10_1 c10_2 c10_3 c10_4 c10_5 c10_6 c10_7 c10_8 c10_9 c10_10 c10_11 c10_12 c10_13 c10_14 c10_15 v11 = some t → fE c2 c10_0 c10_1 c10_2 c10_3 c10_4 c10_5 c10_6 c10_7 c10_8 c10_9 c10_10 c10_11 c10_12 c10_13 c10_14 c10_15 v11 c10_0 c10_1 c10_2 c10_3 c10_4 c10_5 c10_6 c10_7 c10_8 c10_9 c10_10 c10_11 c10_12 c10_13 c10_14 c10_15 [] R N0 := by
  unfold Lx fE
  refine An (fun _ => ?_) (fun _ => ?_)
  · refine Aq fun x87 h87 => ?_
    refine iq (AV.agg [(Aa x87.c0), (Aa x87.c1), (Aa x87.c2), (Aa x87.c3)]) (R5 (E := Dw.E) (l := ([(⟨c10_0, c10_1, c10_2, c10_3⟩ : Dw), (⟨c10_4, c10_5, c10_6, c10_7⟩ : Dw), (⟨c10_8, c10_9, c10_10, c10_11⟩ : Dw), (⟨c10_12, c10_13, c10_14, c10_15⟩ : Dw)] : List Dw)) (len := 4) (e := 23) (by kernel_rfl) (by kernel_rfl) (by kernel_rfl) rfl ⟨rfl, rfl⟩ h87) ?_
    refine imp Fc ?_
    iterate 4 refine imp Ai ?_
    exact fun hg => Z0 n c2 c10_0 c10_1 c10_2 c10_3 c10_4 c10_5 c10_6 c10_7 c10_8 c10_9 c10_10 c10_11 c10_12 c10_13 c10_14 c10_15 v11 x87.c0 x87.c1 x87.c2 x87.c3 R N0 hR hN0 n _ hg (Az [(0, 0)] rfl rfl rfl (oR (oR (oR (oR (oR (oR A6)))))) (A3 (Be (cs := [(Aa c10_0), (Aa c10_1), (Aa c10_2), (Aa c10_3), (Aa c10_4), (Aa c10_5), (Aa c10_6), (Aa c10_7), (Aa c10_8), (Aa c10_9), (Aa c10_10), (Aa c10_11), (Aa c10_12), (Aa c10_13), (Aa c10_14), (Aa c10_15)]) (ty := 25) rfl (show Al _ 0 = _ from (by first | rfl | (simp (disch := first | decide | assumption) only [lk])))) A0))
  · refine Xs fun t0 e0 => ?_
    exact fun hg => pL n c2 c10_0 c10_1 c10_2 c10_3 c10_4 c10_5 c10_6 c10_7 c10_8 c10_9 c10_10 c10_11 c10_12 c10_13 c10_14 c10_15 R  (fun r e => hR r (e0.trans (congrArg Sum.inr e))) n _ hg (Az [(0, 0)] rfl rfl rfl (oR (oR (oR A6))) (A3 (Be (cs := [(Aa c10_0), (Aa c10_1), (Aa c10_2), (Aa c10_3), (Aa c10_4), (Aa c10_5), (Aa c10_6), (Aa c10_7), (Aa c10_8), (Aa c10_9), (Aa c10_10), (Aa c10_11), (Aa c10_12), (Aa c10_13), (Aa c10_14), (Aa c10_15)]) (ty := 25) rfl (show Al _ 0 = _ from (by first | rfl | (simp (disch := first | decide | assumption) only [lk])))) A0))
theorem jZ (n : Nat) (c2 : Int) (c10_0 : Int) (c10_1 : Int) (c10_2 : Int) (c10_3 : Int) (c10_4 : Int) (c10_5 : Int) (c10_6 : Int) (c10_7 : Int) (c10_8 : Int) (c10_9 : Int) (c10_10 : Int) (c10_11 : Int) (c10_12 : Int) (c10_13 : Int) (c10_14 : Int) (c10_15 : Int) {t : Gi} (R : AV → Mem → Prop) (hR : ∀ r : Gi, t = r → ∀ u m, Cu ((Aa r)) u m → R u m) (k : Nat) (x : Int) (hx : Ba (fun y : Int => Lx n c2 c10_0 c10_1 c10_2 c10_3 c10_4 c10_5 c10_6 c10_7 c10_8 c10_9 c10_10 c10_11 c10_12 c10_13 c10_14 c10_15 y) k x = some t) {s : St} (hw : Bo KK 55 0 s (Py c2 c10_0 c10_1 c10_2 c10_3 c10_4 c10_5 c10_6 c10_7 c10_8 c10_9 c10_10 c10_11 c10_12 c10_13 c10_14 c10_15 x c10_0 c10_1 c10_2 c10_3 c10_4 c10_5 c10_6 c10_7 c10_8 c10_9 c10_10 c10_11 c10_12 c10_13 c10_14 c10_15 [])) : Ca pg KK 55 0 (.loop Tq) s (cZ R ) :=
  Adf R  (σ := Nat × (Int)) (fun z => Ba (fun y : Int => Lx n c2 c10_0 c10_1 c10_2 c10_3 c10_4 c10_5 c10_6 c10_7 c10_8 c10_9 c10_10 c10_11 c10_12 c10_13 c10_14 c10_15 y) z.1 z.2 = some t) (fun z => c2) (fun z => c10_0) (fun z => c10_1) (fun z => c10_2) (fun z => c10_3) (fun z => c10_4) (fun z => c10_5) (fun z => c10_6) (fun z => c10_7) (fun z => c10_8) (fun z => c10_9) (fun z => c10_10) (fun z => c10_11) (fun z => c10_12) (fun z => c10_13) (fun z => c10_14) (fun z => c10_15) (fun z => z.2) (fun z => c10_0) (fun z => c10_1) (fun z => c10_2) (fun z => c10_3) (fun z => c10_4) (fun z => c10_5) (fun z => c10_6) (fun z => c10_7) (fun z => c10_8) (fun z => c10_9) (fun z => c10_10) (fun z => c10_11) (fun z => c10_12) (fun z => c10_13) (fun z => c10_14) (fun z => c10_15) (fun z => []) (fun z => z.1) (by
    rintro ⟨k, y⟩ h
    cases k with
    | zero => exact (Bp h).elim
    | succ k =>
      obtain ⟨u, h1, h2, h3⟩ := Bq h
      exact kV n c2 c10_0 c10_1 c10_2 c10_3 c10_4 c10_5 c10_6 c10_7 c10_8 c10_9 c10_10 c10_11 c10_12 c10_13 c10_14 c10_15 y R  _ (fun r e => hR r (h3 _ e).symm)  (fun y' e s' hw => ⟨(k, y'), h2 _ e, Nat.lt_succ_self k, hw⟩) h1) (k, x) hx hw
theorem Aat (n : Nat) (a0 : Ao) {t : Gi} (R : AV → Mem → Prop) (hR : ∀ r : Gi, t = r → ∀ u m, Cu ((Aa r)) u m → R u m) : Zi n a0 = some t → F39 a0.Cf a0.Ce a0.Ci a0.Cn a0.Cd a0.Cl a0.Cr a0.Co a0.Cm a0.Ck a0.Ch a0.Cg a0.Cb a0.Cj a0.Cq a0.Cp R := by
  unfold Zi F39
  exact fun hg => jZ n (0) a0.Cf a0.Ce a0.Ci a0.Cn a0.Cd a0.Cl a0.Cr a0.Co a0.Cm a0.Ck a0.Ch a0.Cg a0.Cb a0.Cj a0.Cq a0.Cp R  hR n _ hg (Az [(0, 0)] rfl rfl rfl (oR (oR (oR (oR A6)))) (A3 (Be (cs := [(Aa a0.Cf), (Aa a0.Ce), (Aa a0.Ci), (Aa a0.Cn), (Aa a0.Cd), (Aa a0.Cl), (Aa a0.Cr), (Aa a0.Co), (Aa a0.Cm), (Aa a0.Ck), (Aa a0.Ch), (Aa a0.Cg), (Aa a0.Cb), (Aa a0.Cj), (Aa a0.Cq), (Aa a0.Cp)]) (ty := 25) rfl (show Al _ 0 = _ from (by first | rfl | (simp (disch := first | decide | assumption) only [lk])))) A0))
theorem yI {n : Nat} {a0 : Ao} {t : Gi} (h : Zi n a0 = some t) : C3 pg KK.gl 39 [(AV.agg [(Aa a0.Cf), (Aa a0.Ce), (Aa a0.Ci), (Aa a0.Cn), (Aa a0.Cd), (Aa a0.Cl), (Aa a0.Cr), (Aa a0.Co), (Aa a0.Cm), (Aa a0.Ck), (Aa a0.Ch), (Aa a0.Cg), (Aa a0.Cb), (Aa a0.Cj), (Aa a0.Cq), (Aa a0.Cp)])] ((Aa t)) :=
  A5 (by first | rfl | simp [As, clean, Ak, En.Di]) (by first | rfl | simp [As, clean, Ak, En.Di]) (wB a0.Cf a0.Ce a0.Ci a0.Cn a0.Cd a0.Cl a0.Cr a0.Co a0.Cm a0.Ck a0.Ch a0.Cg a0.Cb a0.Cj a0.Cq a0.Cp _ (Aat n a0 (Cu ((Aa t))) (fun r e u m h => by rw [e]; exact h) h))
theorem nA (n : Nat) (c2 : Bool) (c14 : List UInt8) (c15 : Int) (v16 : Int) {t : (Int) ⊕ Vv} (R : AV → Mem → Prop) (N0 : St → Prop) (hR : ∀ r : Vv, t = (.inr r) → ∀ u m, Cu ((Ac r)) u m → R u m) (hN0 : ∀ y : Int, t = (.inl y) → ∀ s' : St, Bo KK 41 0 s' (Sq c2 (Am Hc c14) c15 y []) → N0 s') : Lu n c2 c14 c15 v16 = some t → bK c2 (Am Hc c14) c15 v16 [] R N0 := by
  unfold Lu bK
  refine An (fun _ => ?_) (fun _ => ?_)
  · refine Aq fun x97 h97 => ?_
    refine iq (AV.B8 [(AV.sc (.int .u8 (x97.toNat : Int)))] 0) (Bk (E := Hc) rfl h97) ?_
    refine iq (AV.sc (.int .u8 (x97.toNat : Int))) rfl ?_
    refine imp vM ?_
    refine An (fun _ => ?_) (fun _ => ?_)
    · refine An (fun _ => ?_) (fun _ => ?_)
      · exact fun hg => hN0 _ (Option.some.inj hg).symm _ (Az [] rfl rfl rfl (oR (Aj (Au (E := Hc) _ false) (oR (oR A6)))) A0)
      · refine An (fun _ => ?_) (fun _ => ?_)
        · refine An (fun _ => ?_) (fun _ => ?_)
          · refine An (fun _ => ?_) (fun _ => ?_)
            · exact Df hR rfl rfl
            · exact fun hg => hN0 _ (Option.some.inj hg).symm _ (Az [] rfl rfl rfl (oR (Aj (Au (E := Hc) _ false) (oR (oR A6)))) A0)
          · exact Df hR rfl rfl
        · exact Df hR rfl rfl
    · refine An (fun _ => ?_) (fun _ => ?_)
      · refine An (fun _ => ?_) (fun _ => ?_)
        · refine An (fun _ => ?_) (fun _ => ?_)
          · exact Df hR rfl rfl
          · exact fun hg => hN0 _ (Option.some.inj hg).symm _ (Az [] rfl rfl rfl (oR (Aj (Au (E := Hc) _ false) (oR (oR A6)))) A0)
        · exact Df hR rfl rfl
      · exact Df hR rfl rfl
  · exact Df hR rfl rfl
theorem pN (n : Nat) (c2 : Bool) (c14 : List UInt8) (c15 : Int) {t : Vv} (R : AV → Mem → Prop) (hR : ∀ r : Vv, t = r → ∀ u m, Cu ((Ac r)) u m → R u m) (k : Nat) (x : Int) (hx : Ba (fun y : Int => Lu n c2 c14 c15 y) k x = some t) {s : St} (hw : Bo KK 41 0 s (Sq c2 (Am Hc c14) c15 x [])) : Ca pg KK 41 0 (.loop bV) s (dB R ) :=
  Ad0 R  (σ := Nat × (Int)) (fun z => Ba (fun y : Int => Lu n c2 c14 c15 y) z.1 z.2 = some t) (fun z => c2) (fun z => (Am Hc c14)) (fun z => c15) (fun z => z.2) (fun z => []) (fun z => z.1) (by
    rintro ⟨k, y⟩ h
    cases k with
    | zero => exact (Bp h).elim
    | succ k =>
      obtain ⟨u, h1, h2, h3⟩ := Bq h
      exact nA n c2 c14 c15 y R  _ (fun r e => hR r (h3 _ e).symm)  (fun y' e s' hw => ⟨(k, y'), h2 _ e, Nat.lt_succ_self k, hw⟩) h1) (k, x) hx hw
theorem Aav (n : Nat) (a0 : ByteArray) {t : Vv} (R : AV → Mem → Prop) (hR : ∀ r : Vv, t = r → ∀ u m, Cu ((Ac r)) u m → R u m) : g61 n a0 = some t → F61 a0 R := by
  unfold g61 F61
  refine iq (Aa (a0.size : Int)) (by kernel_rfl) ?_
  refine imp Ai ?_
  refine An (fun _ => ?_) (fun _ => ?_)
  · exact Df hR rfl rfl
  · refine iq (Aa (a0.size : Int)) (by kernel_rfl) ?_
    refine imp Ai ?_
    refine An (fun _ => ?_) (fun _ => ?_)
    · exact Df hR rfl rfl
    · refine Aq fun x96 h96 => ?_
      refine iq (Am Hc (a0.data.toList)) (gO (e := 5) (by kernel_rfl) (by kernel_rfl) (by kernel_rfl) h96) ?_
      refine iq (Aa ((a0.data.toList).length : Int)) rfl ?_
      refine imp Ai ?_
      exact fun hg => pN n false (a0.data.toList) ((a0.data.toList).length : Int) R  hR n _ hg (Az [] rfl rfl rfl (oR (Aj (Au (E := Hc) _ false) (oR (oR A6)))) A0)
theorem Afw {n : Nat} {a0 : ByteArray} {t : Vv} (h : g61 n a0 = some t) : C3 pg KK.gl 61 [(C6 a0)] ((Ac t)) :=
  A5 (by first | rfl | simp [As, clean, Ak, En.Di]) (by first | rfl | simp [As, clean, Ak, En.Di]) (wP a0 _ (Aav n a0 (Cu ((Ac t))) (fun r e u m h => by rw [e]; exact h) h))
theorem Aas (n : Nat) (a0 : Int) {t : sS} (R : AV → Mem → Prop) (hR : ∀ r : sS, t = r → ∀ u m, Cu ((Aa r)) u m → R u m) : o9 n a0 = some t → F50 a0 R := by
  unfold o9 F50
  refine An (fun _ => ?_) (fun _ => ?_)
  · exact Df hR rfl rfl
  · refine An (fun _ => ?_) (fun _ => ?_)
    · exact Df hR rfl rfl
    · exact Df hR rfl rfl
theorem tD {n : Nat} {a0 : Int} {t : sS} (h : o9 n a0 = some t) : C3 pg KK.gl 50 [(Aa a0)] ((Aa t)) :=
  A5 (by first | rfl | simp [As, clean, Ak, En.Di]) (by first | rfl | simp [As, clean, Ak, En.Di]) (qT a0 _ (Aas n a0 (Cu ((Aa t))) (fun r e u m h => by rw [e]; exact h) h))
theorem rB (n : Nat) (a0 : Ad) (a1_0 : ByteArray) (a1_1 : Int) (a1_2 : Int) (a1_3 : Int) {t : bQ} (R : AV → Mem → Prop) (hR : ∀ r : bQ, t = r → ∀ u m, Cu ((Ac r)) u m → R u m) : nS n a0 a1_0 a1_1 a1_2 a1_3 = some t → uH a0.Call a0.Bc a0.Time a0.Bs (AV.B8 [(C6 a1_0), (Aa a1_1), (Aa a1_2), (Aa a1_3)] 0) R := by
  unfold nS uH
  refine iq (AV.B8 [(C6 a1_0), (Aa a1_1), (Aa a1_2), (Aa a1_3)] 0) rfl ?_
  refine iq (C6 a1_0) rfl ?_
  refine imp M4 ?_
  exact Df hR rfl rfl
theorem Aci {n : Nat} {a0 : Ad} {a1_0 : ByteArray} {a1_1 : Int} {a1_2 : Int} {a1_3 : Int} {t : bQ} (h : nS n a0 a1_0 a1_1 a1_2 a1_3 = some t) : C3 pg KK.gl 166 [(AV.agg [(C6 a0.Call), (Aa a0.Bc), (Aa a0.Time), (Aa a0.Bs)]), (AV.B8 [(C6 a1_0), (Aa a1_1), (Aa a1_2), (Aa a1_3)] 0)] ((Ac t)) :=
  A5 (by first | rfl | simp [As, clean, Ak, En.Di]) (by first | rfl | simp [As, clean, Ak, En.Di]) (oG a0.Call a0.Bc a0.Time a0.Bs (AV.B8 [(C6 a1_0), (Aa a1_1), (Aa a1_2), (Aa a1_3)] 0) _ (rB n a0 a1_0 a1_1 a1_2 a1_3 (Cu ((Ac t))) (fun r e u m h => by rw [e]; exact h) h))
theorem fZ (n : Nat) (a0 : List Ad) (a1_0_0 : ByteArray) (a1_0_1 : Int) (a1_0_2 : Int) (a1_0_3 : Int) (c4 : Int) (c7 : Int) (v8 : Int) {t : (Int) ⊕ Nn} (R : AV → Mem → Prop) (N0 : St → Prop) (hR : ∀ r : Nn, t = (.inr r) → ∀ u m, Cu ((Aa r)) u m → R u m) (hN0 : ∀ y : Int, t = (.inl y) → ∀ s' : St, Bo KK 19 0 s' (Oi (Am Ad.E a0) (AV.fn 166 [(AV.B8 [(C6 a1_0_0), (Aa a1_0_1), (Aa a1_0_2), (Aa a1_0_3)] 0)]) c4 c7 y []) → N0 s') : Jw n a0 a1_0_0 a1_0_1 a1_0_2 a1_0_3 c4 c7 v8 = some t → Uw (Am Ad.E a0) (AV.fn 166 [(AV.B8 [(C6 a1_0_0), (Aa a1_0_1), (Aa a1_0_2), (Aa a1_0_3)] 0)]) c4 c7 v8 [] R N0 := by
  unfold Jw Uw
  refine An (fun _ => ?_) (fun _ => ?_)
  · refine Aq fun x101 h101 => ?_
    refine iq (AV.B8 [(C6 x101.Call), (Aa x101.Bc), (Aa x101.Time), (Aa x101.Bs)] 0) (Bk (E := Ad.E) rfl h101) ?_
    refine iq (AV.agg [(C6 x101.Call), (Aa x101.Bc), (Aa x101.Time), (Aa x101.Bs)]) rfl ?_
    refine imp Fc ?_
    refine imp M4 ?_
    iterate 3 refine imp Ai ?_
    refine Aq fun x102 h102 => ?_
    refine imp It ?_
    refine imp (dN rfl) ?_
    refine imp (Mi (Aci h102)) ?_
    refine imp Dk ?_
    refine An (fun _ => ?_) (fun _ => ?_)
    · exact Df hR rfl rfl
    · exact fun hg => hN0 _ (Option.some.inj hg).symm _ (Az [] rfl rfl rfl (Aj (Au (E := Ad.E) _ false) (Aj (I4 (Hr _) (by simp [clean, As, Ak])) (oR (oR (oR A6))))) A0)
  · exact Df hR rfl rfl
theorem iF (n : Nat) (a0 : List Ad) (a1_0_0 : ByteArray) (a1_0_1 : Int) (a1_0_2 : Int) (a1_0_3 : Int) (c4 : Int) (c7 : Int) {t : Nn} (R : AV → Mem → Prop) (hR : ∀ r : Nn, t = r → ∀ u m, Cu ((Aa r)) u m → R u m) (k : Nat) (x : Int) (hx : Ba (fun y : Int => Jw n a0 a1_0_0 a1_0_1 a1_0_2 a1_0_3 c4 c7 y) k x = some t) {s : St} (hw : Bo KK 19 0 s (Oi (Am Ad.E a0) (AV.fn 166 [(AV.B8 [(C6 a1_0_0), (Aa a1_0_1), (Aa a1_0_2), (Aa a1_0_3)] 0)]) c4 c7 x [])) : Ca pg KK 19 0 (.loop U7) s (Uj R ) :=
  zP R  (σ := Nat × (Int)) (fun z => Ba (fun y : Int => Jw n a0 a1_0_0 a1_0_1 a1_0_2 a1_0_3 c4 c7 y) z.1 z.2 = some t) (fun z => (Am Ad.E a0)) (fun z => (AV.fn 166 [(AV.B8 [(C6 a1_0_0), (Aa a1_0_1), (Aa a1_0_2), (Aa a1_0_3)] 0)])) (fun z => c4) (fun z => c7) (fun z => z.2) (fun z => []) (fun z => z.1) (by
    rintro ⟨k, y⟩ h
    cases k with
    | zero => exact (Bp h).elim
    | succ k =>
      obtain ⟨u, h1, h2, h3⟩ := Bq h
      exact fZ n a0 a1_0_0 a1_0_1 a1_0_2 a1_0_3 c4 c7 y R  _ (fun r e => hR r (h3 _ e).symm)  (fun y' e s' hw => ⟨(k, y'), h2 _ e, Nat.lt_succ_self k, hw⟩) h1) (k, x) hx hw
theorem vV (n : Nat) (a0 : List Ad) (a1_0_0 : ByteArray) (a1_0_1 : Int) (a1_0_2 : Int) (a1_0_3 : Int) {t : Nn} (R : AV → Mem → Prop) (hR : ∀ r : Nn, t = r → ∀ u m, Cu ((Aa r)) u m → R u m) : nW n a0 a1_0_0 a1_0_1 a1_0_2 a1_0_3 = some t → uY (Am Ad.E a0) (AV.fn 166 [(AV.B8 [(C6 a1_0_0), (Aa a1_0_1), (Aa a1_0_2), (Aa a1_0_3)] 0)]) R := by
  unfold nW uY
  refine iq (Aa (a0.length : Int)) rfl ?_
  refine imp Ai ?_
  exact fun hg => iF n a0 a1_0_0 a1_0_1 a1_0_2 a1_0_3 (0) (a0.length : Int) R  hR n _ hg (Az [] rfl rfl rfl (Aj (Au (E := Ad.E) _ false) (Aj (I4 (Hr _) (by simp [clean, As, Ak])) (oR (oR (oR A6))))) A0)
theorem Ab5 {n : Nat} {a0 : List Ad} {a1_0_0 : ByteArray} {a1_0_1 : Int} {a1_0_2 : Int} {a1_0_3 : Int} {t : Nn} (h : nW n a0 a1_0_0 a1_0_1 a1_0_2 a1_0_3 = some t) : C3 pg KK.gl 224 [(Am Ad.E a0), (AV.fn 166 [(AV.B8 [(C6 a1_0_0), (Aa a1_0_1), (Aa a1_0_2), (Aa a1_0_3)] 0)])] ((Aa t)) :=
  A5 (by first | rfl | simp [As, clean, Ak, En.Di]) (by first | rfl | simp [As, clean, Ak, En.Di]) (pH (Am Ad.E a0) (AV.fn 166 [(AV.B8 [(C6 a1_0_0), (Aa a1_0_1), (Aa a1_0_2), (Aa a1_0_3)] 0)]) _ (vV n a0 a1_0_0 a1_0_1 a1_0_2 a1_0_3 (Cu ((Aa t))) (fun r e u m h => by rw [e]; exact h) h))
theorem sI (n : Nat) (a0 : List Ad) (a1_0_0 : ByteArray) (a1_0_1 : Int) (a1_0_2 : Int) (a1_0_3 : Int) {t : cK} (R : AV → Mem → Prop) (hR : ∀ r : cK, t = r → ∀ u m, Cu ((Ac r)) u m → R u m) : jF n a0 a1_0_0 a1_0_1 a1_0_2 a1_0_3 = some t → s5 (Am Ad.E a0) (AV.fn 166 [(AV.B8 [(C6 a1_0_0), (Aa a1_0_1), (Aa a1_0_2), (Aa a1_0_3)] 0)]) R := by
  unfold jF s5
  refine Aq fun x103 h103 => ?_
  refine imp (A1 (Ab5 h103)) ?_
  refine imp Ai ?_
  exact Df hR rfl rfl
theorem Ads {n : Nat} {a0 : List Ad} {a1_0_0 : ByteArray} {a1_0_1 : Int} {a1_0_2 : Int} {a1_0_3 : Int} {t : cK} (h : jF n a0 a1_0_0 a1_0_1 a1_0_2 a1_0_3 = some t) : C3 pg KK.gl 165 [(Am Ad.E a0), (AV.fn 166 [(AV.B8 [(C6 a1_0_0), (Aa a1_0_1), (Aa a1_0_2), (Aa a1_0_3)] 0)])] ((Ac t)) :=
  A5 (by first | rfl | simp [As, clean, Ak, En.Di]) (by first | rfl | simp [As, clean, Ak, En.Di]) (lQ (Am Ad.E a0) (AV.fn 166 [(AV.B8 [(C6 a1_0_0), (Aa a1_0_1), (Aa a1_0_2), (Aa a1_0_3)] 0)]) _ (sI n a0 a1_0_0 a1_0_1 a1_0_2 a1_0_3 (Cu ((Ac t))) (fun r e u m h => by rw [e]; exact h) h))
theorem fP (n : Nat) (a0 : List Ad) (c2 : Int) (c10 : Int) (v11 : Int) {t : (Int) ⊕ Nb} (R : AV → Mem → Prop) (N0 : St → Prop) (hR : ∀ r : Nb, t = (.inr r) → ∀ u m, Cu ((Aa r)) u m → R u m) (hN0 : ∀ y : Int, t = (.inl y) → ∀ s' : St, Bo KK 49 0 s' (O5 (Am Ad.E a0) c2 (Am Ad.E a0) c10 y []) → N0 s') : Hn n a0 c2 c10 v11 = some t → U5 (Am Ad.E a0) c2 (Am Ad.E a0) c10 v11 [] R N0 := by
  unfold Hn U5
  refine An (fun _ => ?_) (fun _ => ?_)
  · refine Aq fun x95 h95 => ?_
    refine iq (AV.B8 [(C6 x95.Call), (Aa x95.Bc), (Aa x95.Time), (Aa x95.Bs)] 0) (Bk (E := Ad.E) rfl h95) ?_
    refine iq (AV.agg [(C6 x95.Call), (Aa x95.Bc), (Aa x95.Time), (Aa x95.Bs)]) rfl ?_
    refine imp Fc ?_
    refine imp M4 ?_
    iterate 3 refine imp Ai ?_
    refine Aq fun x98 h98 => ?_
    refine imp (A1 (Afw h98)) ?_
    refine imp Dk ?_
    refine An (fun _ => ?_) (fun _ => ?_)
    · exact Df hR rfl rfl
    · refine Aq fun x99 h99 => ?_
      refine imp (A1 (tD h99)) ?_
      refine imp Ai ?_
      refine An (fun _ => ?_) (fun _ => ?_)
      · exact Df hR rfl rfl
      · refine An (fun _ => ?_) (fun _ => ?_)
        · exact Df hR rfl rfl
        · refine An (fun _ => ?_) (fun _ => ?_)
          · exact Df hR rfl rfl
          · refine An (fun _ => ?_) (fun _ => ?_)
            · exact Df hR rfl rfl
            · refine Aq fun x100 h100 => ?_
              refine iq (Am Ad.E x100) (Aa9 (E := Ad.E) (e := 35) (by kernel_rfl) (by kernel_rfl) rfl h100) ?_
              refine Aq fun x104 h104 => ?_
              refine imp (Er (Ej (Aw (aA (E := Ad.E) _ _ false) (Aw (W0 _ _ (Aw (bA _ (ty := 35) (us := [(C6 x95.Call), (Aa x95.Bc), (Aa x95.Time), (Aa x95.Bs)]) (by first | rfl | (simp (disch := first | decide | assumption) only [lk])) (Aw (Bw _ _) (Aw (Bw _ _) (Aw (Bw _ _) (Aw (Bw _ _) Dc))))) Dc)) Dc)) (Ads h104) rfl)) ?_
              refine imp Dk ?_
              refine An (fun _ => ?_) (fun _ => ?_)
              · exact Df hR rfl rfl
              · exact fun hg => hN0 _ (Option.some.inj hg).symm _ (Az [] rfl rfl rfl (Aj (Au (E := Ad.E) _ false) (oR (Aj (Au (E := Ad.E) _ false) (oR (oR A6))))) A0)
  · exact Df hR rfl rfl
theorem jS (n : Nat) (a0 : List Ad) (c2 : Int) (c10 : Int) {t : Nb} (R : AV → Mem → Prop) (hR : ∀ r : Nb, t = r → ∀ u m, Cu ((Aa r)) u m → R u m) (k : Nat) (x : Int) (hx : Ba (fun y : Int => Hn n a0 c2 c10 y) k x = some t) {s : St} (hw : Bo KK 49 0 s (O5 (Am Ad.E a0) c2 (Am Ad.E a0) c10 x [])) : Ca pg KK 49 0 (.loop Ub) s (Wg R ) :=
  Aa8 R  (σ := Nat × (Int)) (fun z => Ba (fun y : Int => Hn n a0 c2 c10 y) z.1 z.2 = some t) (fun z => (Am Ad.E a0)) (fun z => c2) (fun z => (Am Ad.E a0)) (fun z => c10) (fun z => z.2) (fun z => []) (fun z => z.1) (by
    rintro ⟨k, y⟩ h
    cases k with
    | zero => exact (Bp h).elim
    | succ k =>
      obtain ⟨u, h1, h2, h3⟩ := Bq h
      exact fP n a0 c2 c10 y R  _ (fun r e => hR r (h3 _ e).symm)  (fun y' e s' hw => ⟨(k, y'), h2 _ e, Nat.lt_succ_self k, hw⟩) h1) (k, x) hx hw
theorem rF (n : Nat) (a0 : List Ad) {t : Nb} (R : AV → Mem → Prop) (hR : ∀ r : Nb, t = r → ∀ u m, Cu ((Aa r)) u m → R u m) : Wk n a0 = some t → wM (Am Ad.E a0) R := by
  unfold Wk wM
  refine iq (Aa (a0.length : Int)) rfl ?_
  refine imp Ai ?_
  refine An (fun _ => ?_) (fun _ => ?_)
  · exact Df hR rfl rfl
  · refine iq (Aa (a0.length : Int)) rfl ?_
    refine imp Ai ?_
    exact fun hg => jS n a0 (0) (a0.length : Int) R  hR n _ hg (Az [] rfl rfl rfl (Aj (Au (E := Ad.E) _ false) (oR (Aj (Au (E := Ad.E) _ false) (oR (oR A6))))) A0)
theorem Acj {n : Nat} {a0 : List Ad} {t : Nb} (h : Wk n a0 = some t) : C3 pg KK.gl 109 [(Am Ad.E a0)] ((Aa t)) :=
  A5 (by first | rfl | simp [As, clean, Ak, En.Di]) (by first | rfl | simp [As, clean, Ak, En.Di]) (mV (Am Ad.E a0) _ (rF n a0 (Cu ((Aa t))) (fun r e u m h => by rw [e]; exact h) h))
theorem uX (n : Nat) (a0 : ByteArray) {t : fB} (R : AV → Mem → Prop) (hR : ∀ r : fB, t = r → ∀ u m, Cu ((Ac r)) u m → R u m) : iE n a0 = some t → vD a0 R := by
  unfold iE vD
  exact Df hR rfl rfl
theorem xN {n : Nat} {a0 : ByteArray} {t : fB} (h : iE n a0 = some t) : C3 pg KK.gl 153 [(C6 a0)] ((Ac t)) :=
  A5 (by first | rfl | simp [As, clean, Ak, En.Di]) (by first | rfl | simp [As, clean, Ak, En.Di]) (nC a0 _ (uX n a0 (Cu ((Ac t))) (fun r e u m h => by rw [e]; exact h) h))
theorem zD (n : Nat) (a0 : ByteArray) (a1 : ByteArray) {t : wW} (R : AV → Mem → Prop) (hR : ∀ r : wW, t = r → ∀ u m, Cu ((Aa r)) u m → R u m) : g96 n a0 a1 = some t → F96 a0 a1 R := by
  unfold g96 F96
  refine Aq fun x112 h112 => ?_
  refine imp (A1 (xN h112)) ?_
  refine imp Dk ?_
  refine Aq fun x113 h113 => ?_
  refine imp (A1 (xN h113)) ?_
  refine imp Dk ?_
  refine An (fun _ => ?_) (fun _ => ?_)
  · refine An (fun _ => ?_) (fun _ => ?_)
    · exact Df hR rfl rfl
    · exact Df hR rfl rfl
  · refine An (fun _ => ?_) (fun _ => ?_)
    · exact Df hR rfl rfl
    · refine An (fun _ => ?_) (fun _ => ?_)
      · exact Df hR rfl rfl
      · refine An (fun _ => ?_) (fun _ => ?_)
        · exact Df hR rfl rfl
        · exact Df hR rfl rfl
theorem Ae6 {n : Nat} {a0 : ByteArray} {a1 : ByteArray} {t : wW} (h : g96 n a0 a1 = some t) : C3 pg KK.gl 96 [(C6 a0), (C6 a1)] ((Aa t)) :=
  A5 (by first | rfl | simp [As, clean, Ak, En.Di]) (by first | rfl | simp [As, clean, Ak, En.Di]) (sH a0 a1 _ (zD n a0 a1 (Cu ((Aa t))) (fun r e u m h => by rw [e]; exact h) h))
theorem nX (n : Nat) (c2 : Int) (a0 : List Int) (c7 : Int) (v8 : Int) {t : (Int) ⊕ Uu} (R : AV → Mem → Prop) (N0 : St → Prop) (hR : ∀ r : Uu, t = (.inr r) → ∀ u m, Cu ((Aa r)) u m → R u m) (hN0 : ∀ y : Int, t = (.inl y) → ∀ s' : St, Bo KK 18 0 s' (Te c2 c2 (Am A2 a0) c7 y []) → N0 s') : Po n c2 a0 c7 v8 = some t → dY c2 c2 (Am A2 a0) c7 v8 [] R N0 := by
  unfold Po dY
  refine An (fun _ => ?_) (fun _ => ?_)
  · refine Aq fun x115 h115 => ?_
    refine iq (AV.B8 [(Aa x115)] 0) (Bk (E := A2) rfl h115) ?_
    refine iq (Aa x115) rfl ?_
    refine imp Ai ?_
    refine An (fun _ => ?_) (fun _ => ?_)
    · exact Df hR rfl rfl
    · exact fun hg => hN0 _ (Option.some.inj hg).symm _ (Az [] rfl rfl rfl (oR (oR (Aj (Au (E := A2) _ false) (oR (oR A6))))) A0)
  · exact Df hR rfl rfl
theorem lY (n : Nat) (c2 : Int) (a0 : List Int) (c7 : Int) {t : Uu} (R : AV → Mem → Prop) (hR : ∀ r : Uu, t = r → ∀ u m, Cu ((Aa r)) u m → R u m) (k : Nat) (x : Int) (hx : Ba (fun y : Int => Po n c2 a0 c7 y) k x = some t) {s : St} (hw : Bo KK 18 0 s (Te c2 c2 (Am A2 a0) c7 x [])) : Ca pg KK 18 0 (.loop fI) s (eK R ) :=
  Ac3 R  (σ := Nat × (Int)) (fun z => Ba (fun y : Int => Po n c2 a0 c7 y) z.1 z.2 = some t) (fun z => c2) (fun z => c2) (fun z => (Am A2 a0)) (fun z => c7) (fun z => z.2) (fun z => []) (fun z => z.1) (by
    rintro ⟨k, y⟩ h
    cases k with
    | zero => exact (Bp h).elim
    | succ k =>
      obtain ⟨u, h1, h2, h3⟩ := Bq h
      exact nX n c2 a0 c7 y R  _ (fun r e => hR r (h3 _ e).symm)  (fun y' e s' hw => ⟨(k, y'), h2 _ e, Nat.lt_succ_self k, hw⟩) h1) (k, x) hx hw
theorem yN (n : Nat) (a0 : List Int) {t : Uu} (R : AV → Mem → Prop) (hR : ∀ r : Uu, t = r → ∀ u m, Cu ((Aa r)) u m → R u m) : g95 n a0 = some t → F95 (Am A2 a0) R := by
  unfold g95 F95
  refine iq (Aa (a0.length : Int)) rfl ?_
  refine imp Ai ?_
  exact fun hg => lY n (0) a0 (a0.length : Int) R  hR n _ hg (Az [] rfl rfl rfl (oR (oR (Aj (Au (E := A2) _ false) (oR (oR A6))))) A0)
theorem Afo {n : Nat} {a0 : List Int} {t : Uu} (h : g95 n a0 = some t) : C3 pg KK.gl 95 [(Am A2 a0)] ((Aa t)) :=
  A5 (by first | rfl | simp [As, clean, Ak, En.Di]) (by first | rfl | simp [As, clean, Ak, En.Di]) (qL (Am A2 a0) _ (yN n a0 (Cu ((Aa t))) (fun r e u m h => by rw [e]; exact h) h))
theorem rA (n : Nat) (a0 : Int) (a1 : Int) (a2_0 : List Ad) {t : dZ} (R : AV → Mem → Prop) (hR : ∀ r : dZ, t = r → ∀ u m, Cu ((Aa r)) u m → R u m) : Yv n a0 a1 a2_0 = some t → sX a0 a1 (AV.B8 [(Am Ad.E a2_0)] 0) R := by
  unfold Yv sX
  refine imp (De (show _ = some ((Am Ad.E a2_0), []) from rfl)) ?_
  refine Aq fun x108 h108 => ?_
  refine imp (De (show _ = some ((AV.B8 [(C6 x108.Call), (Aa x108.Bc), (Aa x108.Time), (Aa x108.Bs)] 0), []) from (Bk (E := Ad.E) rfl h108))) ?_
  refine imp (De (show _ = some ((AV.B8 [(C6 x108.Call), (Aa x108.Bc), (Aa x108.Time), (Aa x108.Bs)] 2), []) from rfl)) ?_
  refine imp (De (show _ = some ((Aa x108.Time), []) from rfl)) ?_
  refine imp Ai ?_
  refine imp (De (show _ = some ((Am Ad.E a2_0), []) from rfl)) ?_
  refine Aq fun x109 h109 => ?_
  refine imp (De (show _ = some ((AV.B8 [(C6 x109.Call), (Aa x109.Bc), (Aa x109.Time), (Aa x109.Bs)] 0), []) from (Bk (E := Ad.E) rfl h109))) ?_
  refine imp (De (show _ = some ((AV.B8 [(C6 x109.Call), (Aa x109.Bc), (Aa x109.Time), (Aa x109.Bs)] 2), []) from rfl)) ?_
  refine imp (De (show _ = some ((Aa x109.Time), []) from rfl)) ?_
  refine imp Ai ?_
  refine imp (De (show _ = some ((Am Ad.E a2_0), []) from rfl)) ?_
  refine Aq fun x110 h110 => ?_
  refine imp (De (show _ = some ((AV.B8 [(C6 x110.Call), (Aa x110.Bc), (Aa x110.Time), (Aa x110.Bs)] 0), []) from (Bk (E := Ad.E) rfl h110))) ?_
  refine imp (De (show _ = some ((AV.B8 [(C6 x110.Call), (Aa x110.Bc), (Aa x110.Time), (Aa x110.Bs)] 0), []) from rfl)) ?_
  refine imp (De (show _ = some ((C6 x110.Call), []) from rfl)) ?_
  refine imp M4 ?_
  refine imp (De (show _ = some ((Am Ad.E a2_0), []) from rfl)) ?_
  refine Aq fun x111 h111 => ?_
  refine imp (De (show _ = some ((AV.B8 [(C6 x111.Call), (Aa x111.Bc), (Aa x111.Time), (Aa x111.Bs)] 0), []) from (Bk (E := Ad.E) rfl h111))) ?_
  refine imp (De (show _ = some ((AV.B8 [(C6 x111.Call), (Aa x111.Bc), (Aa x111.Time), (Aa x111.Bs)] 0), []) from rfl)) ?_
  refine imp (De (show _ = some ((C6 x111.Call), []) from rfl)) ?_
  refine imp M4 ?_
  refine Aq fun x114 h114 => ?_
  refine imp (Z8 (Ae6 h114)) ?_
  refine imp Ai ?_
  refine imp (De (show _ = some ((Eu A2 23 ([(IntKind.wrap .i64 (x108.Time - x109.Time)), x114] : List Int)), [(23, some ⟨Ay A2 ([(IntKind.wrap .i64 (x108.Time - x109.Time)), x114] : List Int), 3⟩)]) from rfl)) ?_
  refine Aq fun x116 h116 => ?_
  refine imp (aP [23] (Ej (Aw (Rp (E := A2) (ty := 3) (l' := ([(IntKind.wrap .i64 (x108.Time - x109.Time)), x114] : List Int)) _ A2.nf rfl (by first | rfl | (simp (disch := first | decide | assumption) only [lk]))) Dc) (Afo h116) rfl)) ?_
  refine imp Ai ?_
  refine imp (Ml (by kernel_rfl)) ?_
  exact Df hR rfl rfl
theorem Adv {n : Nat} {a0 : Int} {a1 : Int} {a2_0 : List Ad} {t : dZ} (h : Yv n a0 a1 a2_0 = some t) : C3 pg KK.gl 111 [(Aa a0), (Aa a1), (AV.B8 [(Am Ad.E a2_0)] 0)] ((Aa t)) :=
  A5 (by first | rfl | simp [As, clean, Ak, En.Di]) (by first | rfl | simp [As, clean, Ak, En.Di]) (o7 a0 a1 (AV.B8 [(Am Ad.E a2_0)] 0) _ (rA n a0 a1 a2_0 (Cu ((Aa t))) (fun r e u m h => by rw [e]; exact h) h))
theorem mS (n : Nat) (c3 : Int) (Ho : Int) (a0 : List Ad) (v14 : Int) (L90000 : List Int) {t : (Int × List Int) ⊕ Ud} (R : AV → Mem → Prop) (N0 : St → Prop) (hR : ∀ r : Ud, t = (.inr r) → ∀ u m, Cu ((AV.tup [(Am A2 r.1), (Aa r.2)])) u m → R u m) (hN0 : ∀ y : Int × List Int, t = (.inl y) → ∀ s' : St, Bo KK 26 0 s' (Tw AV.Cc c3 (B5 A2 90000 y.2) Ho y.1 (Am Ad.E a0) [(90000, Cs A2 3 y.2)]) → N0 s') : Lz n c3 Ho a0 v14 L90000 = some t → cY AV.Cc c3 (B5 A2 90000 L90000) Ho v14 (Am Ad.E a0) [(90000, Cs A2 3 L90000)] R N0 := by
  unfold Lz cY
  refine An (fun _ => ?_) (fun _ => ?_)
  · refine imp (Dl (show _ = some ((Eu A2 100005 ([v14] : List Int)), [(100005, some ⟨Ay A2 ([v14] : List Int), 3⟩)]) from rfl)) ?_
    refine Aq fun x107 h107 => ?_
    refine imp (Dl (show _ = some ((B5 A2 100006 (L90000 ++ ([v14] : List Int))), (Ip A2 100006 90000 3 L90000 ([v14] : List Int))) from (Ib (E := A2) (l' := L90000) (xs := ([v14] : List Int)) rfl rfl (Ez (E := A2) (ty := 3) rfl rfl (by first | rfl | (simp (disch := first | decide | assumption) only [lk]))) (by first | assumption | simp) rfl (fun hne => Eq.trans (by first | rfl | (simp (disch := first | decide | assumption) only [lk])) (C1 hne)) h107))) ?_
    exact fun hg => hN0 _ (Option.some.inj hg).symm _ (Az [(90000, 100006), (0, 0)] rfl rfl rfl (oR (oR (oR (Aj (Dz (E := A2) (id := 100006) (l' := (L90000 ++ ([v14] : List Int))) rfl rfl) (oR (oR A6)))))) (A3 (Be (cs := [(Am Ad.E a0)]) (ty := 22) (by simp [clean, As, Ak]) (show Al _ 0 = _ from (by first | rfl | (simp (disch := first | decide | assumption) only [lk])))) (A3 (Dy (E := A2) (ty := 3) (l' := (L90000 ++ ([v14] : List Int))) rfl (show Al _ 100006 = _ from (by first | rfl | (simp (disch := first | decide | assumption) only [lk])))) A0)))
  · refine Aq fun x117 h117 => ?_
    have lh117 := Tr h117
    refine imp (Vq (hx := rfl) (E := A2) (ty := 3) (l := L90000) (cmp := (fun x y => Yv n x y a0)) rfl tJ oP qP kT rfl (by first | rfl | (simp (disch := first | decide | assumption) only [lk])) (Xv (.inr ⟨_, _, _, _, rfl, by decide, (by first | rfl | (simp (disch := first | decide | assumption) only [lk])), by first | rfl | simp [As, clean, Ak], rfl⟩) bC) (fun x y z h => Adv h) h117) ?_
    refine imp kK ?_
    exact fun hg => D4 rfl (hR _ (Option.some.inj hg).symm) (Dp (bE (E := A2) (ty := 3) (l' := x117) _ (by first | rfl | omega | (simp; done) | (simp; omega)) (by first | rfl | (simp (disch := first | decide | assumption) only [lk]))) (fS Bu))
theorem oN (n : Nat) (c3 : Int) (Ho : Int) (a0 : List Ad) {t : Ud} (R : AV → Mem → Prop) (hR : ∀ r : Ud, t = r → ∀ u m, Cu ((AV.tup [(Am A2 r.1), (Aa r.2)])) u m → R u m) (k : Nat) (x : Int × List Int) (hx : Ba (fun y : Int × List Int => Lz n c3 Ho a0 y.1 y.2) k x = some t) {s : St} (hw : Bo KK 26 0 s (Tw AV.Cc c3 (B5 A2 90000 x.2) Ho x.1 (Am Ad.E a0) [(90000, Cs A2 3 x.2)])) : Ca pg KK 26 0 (.loop eC) s (bJ R ) :=
  Acx R  (σ := Nat × (Int × List Int)) (fun z => Ba (fun y : Int × List Int => Lz n c3 Ho a0 y.1 y.2) z.1 z.2 = some t) (fun z => AV.Cc) (fun z => c3) (fun z => (B5 A2 90000 z.2.2)) (fun z => Ho) (fun z => z.2.1) (fun z => (Am Ad.E a0)) (fun z => [(90000, Cs A2 3 z.2.2)]) (fun z => z.1) (by
    rintro ⟨k, y⟩ h
    cases k with
    | zero => exact (Bp h).elim
    | succ k =>
      obtain ⟨u, h1, h2, h3⟩ := Bq h
      exact mS n c3 Ho a0 y.1 y.2 R  _ (fun r e => hR r (h3 _ e).symm)  (fun y' e s' hw => ⟨(k, y'), h2 _ e, Nat.lt_succ_self k, hw⟩) h1) (k, x) hx hw
theorem Abp (n : Nat) (a0 : List Ad) {t : Ud} (R : AV → Mem → Prop) (hR : ∀ r : Ud, t = r → ∀ u m, Cu ((AV.tup [(Am A2 r.1), (Aa r.2)])) u m → R u m) : gT n a0 = some t → F38 (Am Ad.E a0) R := by
  unfold gT F38
  refine imp (Ml rfl) ?_
  refine Aq fun x105 h105 => ?_
  refine imp (A1 (Acj h105)) ?_
  refine imp Ai ?_
  refine An (fun _ => ?_) (fun _ => ?_)
  · exact fun hg => D4 rfl (hR _ (Option.some.inj hg).symm) (Dp (Qe (E := A2) _) (fS Bu))
  · refine iq (Aa (a0.length : Int)) rfl ?_
    refine imp Ai ?_
    exact fun hg => oN n (0) (a0.length : Int) a0 R  hR n _ hg (Az [(90000, 89500), (0, 0)] rfl rfl rfl (oR (oR (oR (Aj F2 (oR (oR A6)))))) (A3 (Be (cs := [(Am Ad.E a0)]) (ty := 22) (by simp [clean, As, Ak]) (show Al _ 0 = _ from (by first | rfl | (simp (disch := first | decide | assumption) only [lk])))) (A3 M6 A0)))
theorem Ad1 {n : Nat} {a0 : List Ad} {t : Ud} (h : gT n a0 = some t) : C3 pg KK.gl 38 [(Am Ad.E a0)] ((AV.tup [(Am A2 t.1), (Aa t.2)])) :=
  A5 (by first | rfl | simp [As, clean, Ak, En.Di]) (by first | rfl | simp [As, clean, Ak, En.Di]) (s6 (Am Ad.E a0) _ (Abp n a0 (Cu ((AV.tup [(Am A2 t.1), (Aa t.2)]))) (fun r e u m h => by rw [e]; exact h) h))
theorem iA (n : Nat) (a0 : List Int) (a1 : Int) (c4 : Int) (c7 : Int) (v8 : Int) {t : (Int) ⊕ Nd} (R : AV → Mem → Prop) (N0 : St → Prop) (hR : ∀ r : Nd, t = (.inr r) → ∀ u m, Cu ((Aa r)) u m → R u m) (hN0 : ∀ y : Int, t = (.inl y) → ∀ s' : St, Bo KK 19 0 s' (Nz (Am A2 a0) a1 c4 c7 y []) → N0 s') : Ii n a0 a1 c4 c7 v8 = some t → Vp (Am A2 a0) a1 c4 c7 v8 [] R N0 := by
  unfold Ii Vp
  refine An (fun _ => ?_) (fun _ => ?_)
  · refine Aq fun x119 h119 => ?_
    refine iq (AV.B8 [(Aa x119)] 0) (Bk (E := A2) rfl h119) ?_
    refine iq (Aa x119) rfl ?_
    refine imp Ai ?_
    refine An (fun _ => ?_) (fun _ => ?_)
    · exact Df hR rfl rfl
    · exact fun hg => hN0 _ (Option.some.inj hg).symm _ (Az [] rfl rfl rfl (Aj (Au (E := A2) _ false) (oR (oR (oR (oR A6))))) A0)
  · exact Df hR rfl rfl
theorem fX (n : Nat) (a0 : List Int) (a1 : Int) (c4 : Int) (c7 : Int) {t : Nd} (R : AV → Mem → Prop) (hR : ∀ r : Nd, t = r → ∀ u m, Cu ((Aa r)) u m → R u m) (k : Nat) (x : Int) (hx : Ba (fun y : Int => Ii n a0 a1 c4 c7 y) k x = some t) {s : St} (hw : Bo KK 19 0 s (Nz (Am A2 a0) a1 c4 c7 x [])) : Ca pg KK 19 0 (.loop Wn) s (Vy R ) :=
  Aa3 R  (σ := Nat × (Int)) (fun z => Ba (fun y : Int => Ii n a0 a1 c4 c7 y) z.1 z.2 = some t) (fun z => (Am A2 a0)) (fun z => a1) (fun z => c4) (fun z => c7) (fun z => z.2) (fun z => []) (fun z => z.1) (by
    rintro ⟨k, y⟩ h
    cases k with
    | zero => exact (Bp h).elim
    | succ k =>
      obtain ⟨u, h1, h2, h3⟩ := Bq h
      exact iA n a0 a1 c4 c7 y R  _ (fun r e => hR r (h3 _ e).symm)  (fun y' e s' hw => ⟨(k, y'), h2 _ e, Nat.lt_succ_self k, hw⟩) h1) (k, x) hx hw
theorem uJ (n : Nat) (a0 : List Int) (a1 : Int) {t : Nd} (R : AV → Mem → Prop) (hR : ∀ r : Nd, t = r → ∀ u m, Cu ((Aa r)) u m → R u m) : Zw n a0 a1 = some t → rK (Am A2 a0) a1 R := by
  unfold Zw rK
  refine iq (Aa (a0.length : Int)) rfl ?_
  refine imp Ai ?_
  exact fun hg => fX n a0 a1 (0) (a0.length : Int) R  hR n _ hg (Az [] rfl rfl rfl (Aj (Au (E := A2) _ false) (oR (oR (oR (oR A6))))) A0)
theorem xG {n : Nat} {a0 : List Int} {a1 : Int} {t : Nd} (h : Zw n a0 a1 = some t) : C3 pg KK.gl 114 [(Am A2 a0), (Aa a1)] ((Aa t)) :=
  A5 (by first | rfl | simp [As, clean, Ak, En.Di]) (by first | rfl | simp [As, clean, Ak, En.Di]) (kR (Am A2 a0) a1 _ (uJ n a0 a1 (Cu ((Aa t))) (fun r e u m h => by rw [e]; exact h) h))
theorem l6 (n : Nat) (a0 : List Int) (c4 : Int) (a1 : List Int) (c10 : Int) (v5 : Int) (v11 : Int) {t : (Int × Int) ⊕ Wh} (R : AV → Mem → Prop) (N0 : St → Prop) (hR : ∀ r : Wh, t = (.inr r) → ∀ u m, Cu ((Aa r)) u m → R u m) (hN0 : ∀ y : Int × Int, t = (.inl y) → ∀ s' : St, Bo KK 28 0 s' (Tb (Am A2 a0) c4 y.1 (Am A2 a1) c10 y.2 []) → N0 s') : Pp n a0 c4 a1 c10 v5 v11 = some t → cB (Am A2 a0) c4 v5 (Am A2 a1) c10 v11 [] R N0 := by
  unfold Pp cB
  refine An (fun _ => ?_) (fun _ => ?_)
  · refine Aq fun x118 h118 => ?_
    refine iq (AV.B8 [(Aa x118)] 0) (Bk (E := A2) rfl h118) ?_
    refine iq (Aa x118) rfl ?_
    refine imp Ai ?_
    refine Aq fun x120 h120 => ?_
    refine imp (A1 (xG h120)) ?_
    refine imp Ai ?_
    refine iq (Aa (IntKind.wrap .i64 (0 - (IntKind.wrap .i64 (v11 - x120))))) (by kernel_rfl) ?_
    refine imp Ai ?_
    refine iq (Aa (if (IntKind.wrap .i64 (0 - (IntKind.wrap .i64 (v11 - x120)))) > (if (IntKind.wrap .i64 (v11 - x120)) > v5 then (IntKind.wrap .i64 (v11 - x120)) else v5) then (IntKind.wrap .i64 (0 - (IntKind.wrap .i64 (v11 - x120)))) else (if (IntKind.wrap .i64 (v11 - x120)) > v5 then (IntKind.wrap .i64 (v11 - x120)) else v5))) (by kernel_rfl) ?_
    refine imp Ai ?_
    exact fun hg => hN0 _ (Option.some.inj hg).symm _ (Az [] rfl rfl rfl (Aj (Au (E := A2) _ false) (oR (oR (Aj (Au (E := A2) _ false) (oR (oR A6)))))) A0)
  · exact Df hR rfl rfl
theorem kB (n : Nat) (a0 : List Int) (c4 : Int) (a1 : List Int) (c10 : Int) {t : Wh} (R : AV → Mem → Prop) (hR : ∀ r : Wh, t = r → ∀ u m, Cu ((Aa r)) u m → R u m) (k : Nat) (x : Int × Int) (hx : Ba (fun y : Int × Int => Pp n a0 c4 a1 c10 y.1 y.2) k x = some t) {s : St} (hw : Bo KK 28 0 s (Tb (Am A2 a0) c4 x.1 (Am A2 a1) c10 x.2 [])) : Ca pg KK 28 0 (.loop dC) s (b6 R ) :=
  Adp R  (σ := Nat × (Int × Int)) (fun z => Ba (fun y : Int × Int => Pp n a0 c4 a1 c10 y.1 y.2) z.1 z.2 = some t) (fun z => (Am A2 a0)) (fun z => c4) (fun z => z.2.1) (fun z => (Am A2 a1)) (fun z => c10) (fun z => z.2.2) (fun z => []) (fun z => z.1) (by
    rintro ⟨k, y⟩ h
    cases k with
    | zero => exact (Bp h).elim
    | succ k =>
      obtain ⟨u, h1, h2, h3⟩ := Bq h
      exact l6 n a0 c4 a1 c10 y.1 y.2 R  _ (fun r e => hR r (h3 _ e).symm)  (fun y' e s' hw => ⟨(k, y'), h2 _ e, Nat.lt_succ_self k, hw⟩) h1) (k, x) hx hw
theorem Ab0 (n : Nat) (a0 : List Int) (a1 : List Int) {t : Wh} (R : AV → Mem → Prop) (hR : ∀ r : Wh, t = r → ∀ u m, Cu ((Aa r)) u m → R u m) : g43 n a0 a1 = some t → F43 (Am A2 a0) (Am A2 a1) R := by
  unfold g43 F43
  refine iq (Aa (a1.length : Int)) rfl ?_
  refine imp Ai ?_
  exact fun hg => kB n a0 (0) a1 (a1.length : Int) R  hR n _ hg (Az [] rfl rfl rfl (Aj (Au (E := A2) _ false) (oR (oR (Aj (Au (E := A2) _ false) (oR (oR A6)))))) A0)
theorem zQ {n : Nat} {a0 : List Int} {a1 : List Int} {t : Wh} (h : g43 n a0 a1 = some t) : C3 pg KK.gl 43 [(Am A2 a0), (Am A2 a1)] ((Aa t)) :=
  A5 (by first | rfl | simp [As, clean, Ak, En.Di]) (by first | rfl | simp [As, clean, Ak, En.Di]) (qA (Am A2 a0) (Am A2 a1) _ (Ab0 n a0 a1 (Cu ((Aa t))) (fun r e u m h => by rw [e]; exact h) h))
theorem qV (n : Nat) (a0 : List Int) (a1 : Int) {t : eP} (R : AV → Mem → Prop) (hR : ∀ r : eP, t = r → ∀ u m, Cu ((Ac r)) u m → R u m) : nQ n a0 a1 = some t → vT (Am A2 a0) a1 R := by
  unfold nQ vT
  refine Aq fun x121 h121 => ?_
  refine imp (A1 (xG h121)) ?_
  refine imp Ai ?_
  exact Df hR rfl rfl
theorem Acp {n : Nat} {a0 : List Int} {a1 : Int} {t : eP} (h : nQ n a0 a1 = some t) : C3 pg KK.gl 112 [(Am A2 a0), (Aa a1)] ((Ac t)) :=
  A5 (by first | rfl | simp [As, clean, Ak, En.Di]) (by first | rfl | simp [As, clean, Ak, En.Di]) (nG (Am A2 a0) a1 _ (qV n a0 a1 (Cu ((Ac t))) (fun r e u m h => by rw [e]; exact h) h))
end Go.Proofs.YtbfabclpcamlnaaGreatDoor
