/- A part. -/
import Derived.Test.YtbfabclpcamlnaaGreatDoorX1E2
set_option linter.unusedVariables false
set_option linter.unusedSimpArgs false
set_option maxRecDepth 100000
set_option maxHeartbeats 4000000
namespace Go.Proofs.YtbfabclpcamlnaaGreatDoor
theorem Adb (n : Nat) (a0 : Int) (a1 : Int) {t : ρ5} (R : AV → Mem → Prop) (hR : ∀ r : ρ5, t = r → ∀ u m, Cu ((Aa r)) u m → R u m) : g5 n a0 a1 = some t → F5 a0 a1 R := by
  unfold g5 F5
  refine iq (AV.sc (.int .u64 (IntKind.wrap .u64 a0))) (by kernel_rfl) ?_
  refine imp Kq ?_
  refine iq (AV.sc (.int .u64 (IntKind.wrap .u64 a1))) (by kernel_rfl) ?_
  refine imp Kq ?_
  refine Aq fun x123 h123 => ?_
  refine iq (AV.sc (.int .u64 x123)) (Qc h123) ?_
  refine imp Kq ?_
  refine iq (Aa (IntKind.wrap .i64 x123)) (by kernel_rfl) ?_
  refine imp Ai ?_
  exact Df hR rfl rfl
theorem sg5 {n : Nat} {a0 : Int} {a1 : Int} {t : ρ5} (h : g5 n a0 a1 = some t) : C3 pg KK.gl 5 [(Aa a0), (Aa a1)] ((Aa t)) :=
  A5 (by first | rfl | simp [As, clean, Ak, En.Di]) (by first | rfl | simp [As, clean, Ak, En.Di]) (zW a0 a1 _ (Adb n a0 a1 (Cu ((Aa t))) (fun r e u m h => by rw [e]; exact h) h))
theorem Aao (n : Nat) (a0 : Int) {t : p9} (R : AV → Mem → Prop) (hR : ∀ r : p9, t = r → ∀ u m, Cu ((Ac r)) u m → R u m) : rJ n a0 = some t → F49 a0 R := by
  unfold rJ F49
  refine An (fun _ => ?_) (fun _ => ?_)
  · exact Df hR rfl rfl
  · exact Df hR rfl rfl
theorem uI {n : Nat} {a0 : Int} {t : p9} (h : rJ n a0 = some t) : C3 pg KK.gl 49 [(Aa a0)] ((Ac t)) :=
  A5 (by first | rfl | simp [As, clean, Ak, En.Di]) (by first | rfl | simp [As, clean, Ak, En.Di]) (vC a0 _ (Aao n a0 (Cu ((Ac t))) (fun r e u m h => by rw [e]; exact h) h))
theorem lT (n : Nat) (a0 : List Ab) (c2 : Int) (c10 : Int) (v11 : Int) {t : (Int) ⊕ T3} (R : AV → Mem → Prop) (N0 : St → Prop) (hR : ∀ r : T3, t = (.inr r) → ∀ u m, Cu ((Aa r)) u m → R u m) (hN0 : ∀ y : Int, t = (.inl y) → ∀ s' : St, Bo KK 49 0 s' (Sg (Am Ab.E a0) c2 (Am Ab.E a0) c10 y []) → N0 s') : Mb n a0 c2 c10 v11 = some t → cG (Am Ab.E a0) c2 (Am Ab.E a0) c10 v11 [] R N0 := by
  unfold Mb cG
  refine An (fun _ => ?_) (fun _ => ?_)
  · refine Aq fun x131 h131 => ?_
    refine iq (AV.B8 [(Aa x131.Time), (Aa x131.Bc), (Ac x131.Bd), (Aa x131.End)] 0) (Bk (E := Ab.E) rfl h131) ?_
    refine iq (AV.agg [(Aa x131.Time), (Aa x131.Bc), (Ac x131.Bd), (Aa x131.End)]) rfl ?_
    refine imp Fc ?_
    iterate 2 refine imp Ai ?_
    refine imp Dk ?_
    refine imp Ai ?_
    refine Aq fun x132 h132 => ?_
    refine imp (A1 (uI h132)) ?_
    refine imp Dk ?_
    refine An (fun _ => ?_) (fun _ => ?_)
    · exact Df hR rfl rfl
    · refine An (fun _ => ?_) (fun _ => ?_)
      · refine Aq fun x133 h133 => ?_
        refine iq (AV.B8 [(Aa x133.Time), (Aa x133.Bc), (Ac x133.Bd), (Aa x133.End)] 0) (Bk (E := Ab.E) rfl h133) ?_
        refine iq (AV.B8 [(Aa x133.Time), (Aa x133.Bc), (Ac x133.Bd), (Aa x133.End)] 0) rfl ?_
        refine iq (Aa x133.Time) rfl ?_
        refine imp Ai ?_
        refine An (fun _ => ?_) (fun _ => ?_)
        · exact Df hR rfl rfl
        · refine Aq fun x134 h134 => ?_
          refine imp (A1 (tD h134)) ?_
          refine imp Ai ?_
          refine An (fun _ => ?_) (fun _ => ?_)
          · exact Df hR rfl rfl
          · refine An (fun _ => ?_) (fun _ => ?_)
            · refine An (fun _ => ?_) (fun _ => ?_)
              · exact Df hR rfl rfl
              · exact fun hg => hN0 _ (Option.some.inj hg).symm _ (Az [] rfl rfl rfl (Aj (Au (E := Ab.E) _ false) (oR (Aj (Au (E := Ab.E) _ false) (oR (oR A6))))) A0)
            · exact fun hg => hN0 _ (Option.some.inj hg).symm _ (Az [] rfl rfl rfl (Aj (Au (E := Ab.E) _ false) (oR (Aj (Au (E := Ab.E) _ false) (oR (oR A6))))) A0)
      · refine Aq fun x135 h135 => ?_
        refine imp (A1 (tD h135)) ?_
        refine imp Ai ?_
        refine An (fun _ => ?_) (fun _ => ?_)
        · exact Df hR rfl rfl
        · refine An (fun _ => ?_) (fun _ => ?_)
          · refine An (fun _ => ?_) (fun _ => ?_)
            · exact Df hR rfl rfl
            · exact fun hg => hN0 _ (Option.some.inj hg).symm _ (Az [] rfl rfl rfl (Aj (Au (E := Ab.E) _ false) (oR (Aj (Au (E := Ab.E) _ false) (oR (oR A6))))) A0)
          · exact fun hg => hN0 _ (Option.some.inj hg).symm _ (Az [] rfl rfl rfl (Aj (Au (E := Ab.E) _ false) (oR (Aj (Au (E := Ab.E) _ false) (oR (oR A6))))) A0)
  · exact Df hR rfl rfl
theorem nF (n : Nat) (a0 : List Ab) (c2 : Int) (c10 : Int) {t : T3} (R : AV → Mem → Prop) (hR : ∀ r : T3, t = r → ∀ u m, Cu ((Aa r)) u m → R u m) (k : Nat) (x : Int) (hx : Ba (fun y : Int => Mb n a0 c2 c10 y) k x = some t) {s : St} (hw : Bo KK 49 0 s (Sg (Am Ab.E a0) c2 (Am Ab.E a0) c10 x [])) : Ca pg KK 49 0 (.loop dT) s (e7 R ) :=
  Ace R  (σ := Nat × (Int)) (fun z => Ba (fun y : Int => Mb n a0 c2 c10 y) z.1 z.2 = some t) (fun z => (Am Ab.E a0)) (fun z => c2) (fun z => (Am Ab.E a0)) (fun z => c10) (fun z => z.2) (fun z => []) (fun z => z.1) (by
    rintro ⟨k, y⟩ h
    cases k with
    | zero => exact (Bp h).elim
    | succ k =>
      obtain ⟨u, h1, h2, h3⟩ := Bq h
      exact lT n a0 c2 c10 y R  _ (fun r e => hR r (h3 _ e).symm)  (fun y' e s' hw => ⟨(k, y'), h2 _ e, Nat.lt_succ_self k, hw⟩) h1) (k, x) hx hw
theorem Aaw (n : Nat) (a0 : List Ab) {t : T3} (R : AV → Mem → Prop) (hR : ∀ r : T3, t = r → ∀ u m, Cu ((Aa r)) u m → R u m) : g44 n a0 = some t → F44 (Am Ab.E a0) R := by
  unfold g44 F44
  refine iq (Aa (a0.length : Int)) rfl ?_
  refine imp Ai ?_
  refine An (fun _ => ?_) (fun _ => ?_)
  · exact Df hR rfl rfl
  · refine iq (Aa (a0.length : Int)) rfl ?_
    refine imp Ai ?_
    exact fun hg => nF n a0 (0) (a0.length : Int) R  hR n _ hg (Az [] rfl rfl rfl (Aj (Au (E := Ab.E) _ false) (oR (Aj (Au (E := Ab.E) _ false) (oR (oR A6))))) A0)
theorem Aee {n : Nat} {a0 : List Ab} {t : T3} (h : g44 n a0 = some t) : C3 pg KK.gl 44 [(Am Ab.E a0)] ((Aa t)) :=
  A5 (by first | rfl | simp [As, clean, Ak, En.Di]) (by first | rfl | simp [As, clean, Ak, En.Di]) (u2 (Am Ab.E a0) _ (Aaw n a0 (Cu ((Aa t))) (fun r e u m h => by rw [e]; exact h) h))
theorem nZ (n : Nat) (a0 : List Ah) (c2 : Int) (c14 : Int) (v15 : Int) {t : (Int) ⊕ U3} (R : AV → Mem → Prop) (N0 : St → Prop) (hR : ∀ r : U3, t = (.inr r) → ∀ u m, Cu ((Aa r)) u m → R u m) (hN0 : ∀ y : Int, t = (.inl y) → ∀ s' : St, Bo KK 64 0 s' (Sj (Am Ah.E a0) c2 (Am Ah.E a0) c14 y []) → N0 s') : Js n a0 c2 c14 v15 = some t → cI (Am Ah.E a0) c2 (Am Ah.E a0) c14 v15 [] R N0 := by
  unfold Js cI
  refine An (fun _ => ?_) (fun _ => ?_)
  · refine Aq fun x137 h137 => ?_
    refine iq (AV.B8 [(Aa x137.B6), (Aa x137.End)] 0) (Bk (E := Ah.E) rfl h137) ?_
    refine iq (AV.agg [(Aa x137.B6), (Aa x137.End)]) rfl ?_
    refine imp J0 ?_
    iterate 2 refine imp Ai ?_
    refine An (fun _ => ?_) (fun _ => ?_)
    · refine An (fun _ => ?_) (fun _ => ?_)
      · exact Df hR rfl rfl
      · refine Aq fun x138 h138 => ?_
        refine imp (A1 (uI h138)) ?_
        refine imp Dk ?_
        refine An (fun _ => ?_) (fun _ => ?_)
        · exact Df hR rfl rfl
        · refine An (fun _ => ?_) (fun _ => ?_)
          · refine Aq fun x139 h139 => ?_
            refine iq (AV.B8 [(Aa x139.B6), (Aa x139.End)] 0) (Bk (E := Ah.E) rfl h139) ?_
            refine iq (AV.B8 [(Aa x139.B6), (Aa x139.End)] 0) rfl ?_
            refine iq (Aa x139.B6) rfl ?_
            refine imp Ai ?_
            refine An (fun _ => ?_) (fun _ => ?_)
            · exact Df hR rfl rfl
            · refine An (fun _ => ?_) (fun _ => ?_)
              · refine Aq fun x140 h140 => ?_
                refine iq (AV.B8 [(Aa x140.B6), (Aa x140.End)] 0) (Bk (E := Ah.E) rfl h140) ?_
                refine iq (AV.B8 [(Aa x140.B6), (Aa x140.End)] 1) rfl ?_
                refine iq (Aa x140.End) rfl ?_
                refine imp Ai ?_
                refine An (fun _ => ?_) (fun _ => ?_)
                · exact Df hR rfl rfl
                · exact fun hg => hN0 _ (Option.some.inj hg).symm _ (Az [] rfl rfl rfl (Aj (Au (E := Ah.E) _ false) (oR (Aj (Au (E := Ah.E) _ false) (oR (oR A6))))) A0)
              · exact fun hg => hN0 _ (Option.some.inj hg).symm _ (Az [] rfl rfl rfl (Aj (Au (E := Ah.E) _ false) (oR (Aj (Au (E := Ah.E) _ false) (oR (oR A6))))) A0)
          · refine An (fun _ => ?_) (fun _ => ?_)
            · refine Aq fun x141 h141 => ?_
              refine iq (AV.B8 [(Aa x141.B6), (Aa x141.End)] 0) (Bk (E := Ah.E) rfl h141) ?_
              refine iq (AV.B8 [(Aa x141.B6), (Aa x141.End)] 1) rfl ?_
              refine iq (Aa x141.End) rfl ?_
              refine imp Ai ?_
              refine An (fun _ => ?_) (fun _ => ?_)
              · exact Df hR rfl rfl
              · exact fun hg => hN0 _ (Option.some.inj hg).symm _ (Az [] rfl rfl rfl (Aj (Au (E := Ah.E) _ false) (oR (Aj (Au (E := Ah.E) _ false) (oR (oR A6))))) A0)
            · exact fun hg => hN0 _ (Option.some.inj hg).symm _ (Az [] rfl rfl rfl (Aj (Au (E := Ah.E) _ false) (oR (Aj (Au (E := Ah.E) _ false) (oR (oR A6))))) A0)
    · refine Aq fun x142 h142 => ?_
      refine imp (A1 (uI h142)) ?_
      refine imp Dk ?_
      refine An (fun _ => ?_) (fun _ => ?_)
      · exact Df hR rfl rfl
      · refine An (fun _ => ?_) (fun _ => ?_)
        · refine Aq fun x143 h143 => ?_
          refine iq (AV.B8 [(Aa x143.B6), (Aa x143.End)] 0) (Bk (E := Ah.E) rfl h143) ?_
          refine iq (AV.B8 [(Aa x143.B6), (Aa x143.End)] 0) rfl ?_
          refine iq (Aa x143.B6) rfl ?_
          refine imp Ai ?_
          refine An (fun _ => ?_) (fun _ => ?_)
          · exact Df hR rfl rfl
          · refine An (fun _ => ?_) (fun _ => ?_)
            · refine Aq fun x144 h144 => ?_
              refine iq (AV.B8 [(Aa x144.B6), (Aa x144.End)] 0) (Bk (E := Ah.E) rfl h144) ?_
              refine iq (AV.B8 [(Aa x144.B6), (Aa x144.End)] 1) rfl ?_
              refine iq (Aa x144.End) rfl ?_
              refine imp Ai ?_
              refine An (fun _ => ?_) (fun _ => ?_)
              · exact Df hR rfl rfl
              · exact fun hg => hN0 _ (Option.some.inj hg).symm _ (Az [] rfl rfl rfl (Aj (Au (E := Ah.E) _ false) (oR (Aj (Au (E := Ah.E) _ false) (oR (oR A6))))) A0)
            · exact fun hg => hN0 _ (Option.some.inj hg).symm _ (Az [] rfl rfl rfl (Aj (Au (E := Ah.E) _ false) (oR (Aj (Au (E := Ah.E) _ false) (oR (oR A6))))) A0)
        · refine An (fun _ => ?_) (fun _ => ?_)
          · refine Aq fun x145 h145 => ?_
            refine iq (AV.B8 [(Aa x145.B6), (Aa x145.End)] 0) (Bk (E := Ah.E) rfl h145) ?_
            refine iq (AV.B8 [(Aa x145.B6), (Aa x145.End)] 1) rfl ?_
            refine iq (Aa x145.End) rfl ?_
            refine imp Ai ?_
            refine An (fun _ => ?_) (fun _ => ?_)
            · exact Df hR rfl rfl
            · exact fun hg => hN0 _ (Option.some.inj hg).symm _ (Az [] rfl rfl rfl (Aj (Au (E := Ah.E) _ false) (oR (Aj (Au (E := Ah.E) _ false) (oR (oR A6))))) A0)
          · exact fun hg => hN0 _ (Option.some.inj hg).symm _ (Az [] rfl rfl rfl (Aj (Au (E := Ah.E) _ false) (oR (Aj (Au (E := Ah.E) _ false) (oR (oR A6))))) A0)
  · exact Df hR rfl rfl
theorem nI (n : Nat) (a0 : List Ah) (c2 : Int) (c14 : Int) {t : U3} (R : AV → Mem → Prop) (hR : ∀ r : U3, t = r → ∀ u m, Cu ((Aa r)) u m → R u m) (k : Nat) (x : Int) (hx : Ba (fun y : Int => Js n a0 c2 c14 y) k x = some t) {s : St} (hw : Bo KK 64 0 s (Sj (Am Ah.E a0) c2 (Am Ah.E a0) c14 x [])) : Ca pg KK 64 0 (.loop eJ) s (dO R ) :=
  Ab2 R  (σ := Nat × (Int)) (fun z => Ba (fun y : Int => Js n a0 c2 c14 y) z.1 z.2 = some t) (fun z => (Am Ah.E a0)) (fun z => c2) (fun z => (Am Ah.E a0)) (fun z => c14) (fun z => z.2) (fun z => []) (fun z => z.1) (by
    rintro ⟨k, y⟩ h
    cases k with
    | zero => exact (Bp h).elim
    | succ k =>
      obtain ⟨u, h1, h2, h3⟩ := Bq h
      exact nZ n a0 c2 c14 y R  _ (fun r e => hR r (h3 _ e).symm)  (fun y' e s' hw => ⟨(k, y'), h2 _ e, Nat.lt_succ_self k, hw⟩) h1) (k, x) hx hw
theorem yY (n : Nat) (a0 : List Ah) {t : U3} (R : AV → Mem → Prop) (hR : ∀ r : U3, t = r → ∀ u m, Cu ((Aa r)) u m → R u m) : g45 n a0 = some t → F45 (Am Ah.E a0) R := by
  unfold g45 F45
  refine iq (Aa (a0.length : Int)) rfl ?_
  refine imp Ai ?_
  refine An (fun _ => ?_) (fun _ => ?_)
  · exact Df hR rfl rfl
  · refine iq (Aa (a0.length : Int)) rfl ?_
    refine imp Ai ?_
    refine An (fun _ => ?_) (fun _ => ?_)
    · exact Df hR rfl rfl
    · refine iq (Aa (a0.length : Int)) rfl ?_
      refine imp Ai ?_
      exact fun hg => nI n a0 (0) (a0.length : Int) R  hR n _ hg (Az [] rfl rfl rfl (Aj (Au (E := Ah.E) _ false) (oR (Aj (Au (E := Ah.E) _ false) (oR (oR A6))))) A0)
theorem Aeu {n : Nat} {a0 : List Ah} {t : U3} (h : g45 n a0 = some t) : C3 pg KK.gl 45 [(Am Ah.E a0)] ((Aa t)) :=
  A5 (by first | rfl | simp [As, clean, Ak, En.Di]) (by first | rfl | simp [As, clean, Ak, En.Di]) (sM (Am Ah.E a0) _ (yY n a0 (Cu ((Aa t))) (fun r e u m h => by rw [e]; exact h) h))
theorem o6 (n : Nat) (a1 : Int) (c4 : Int) (c5 : Bool) (x151 : List Ah) (c21 : Int) (v6 : Int) (v22 : Int) {t : (Int × Int) ⊕ Vn} (R : AV → Mem → Prop) (N0 : St → Prop) (hR : ∀ r : Vn, t = (.inr r) → ∀ u m, Cu ((AV.tup [(Aa r.1), (Ac r.2)])) u m → R u m) (hN0 : ∀ y : Int × Int, t = (.inl y) → ∀ s' : St, Bo KK 44 0 s' (S4 a1 c4 c5 y.1 (Am Ah.E x151) c21 y.2 []) → N0 s') : L9 n a1 c4 c5 x151 c21 v6 v22 = some t → eT a1 c4 c5 v6 (Am Ah.E x151) c21 v22 [] R N0 := by
  unfold L9 eT
  refine An (fun _ => ?_) (fun _ => ?_)
  · refine Aq fun x152 h152 => ?_
    refine iq (AV.B8 [(Aa x152.B6), (Aa x152.End)] 0) (Bk (E := Ah.E) rfl h152) ?_
    refine iq (AV.agg [(Aa x152.B6), (Aa x152.End)]) rfl ?_
    refine imp J0 ?_
    iterate 2 refine imp Ai ?_
    refine iq (Aa (if (IntKind.wrap .i64 (x152.B6 - a1)) > (IntKind.wrap .i64 (a1 - x152.B6)) then (IntKind.wrap .i64 (x152.B6 - a1)) else (IntKind.wrap .i64 (a1 - x152.B6)))) (by kernel_rfl) ?_
    refine imp Ai ?_
    refine An (fun _ => ?_) (fun _ => ?_)
    · exact fun hg => D4 rfl (hR _ (Option.some.inj hg).symm) (fS (fS Bu))
    · refine An (fun _ => ?_) (fun _ => ?_)
      · exact fun hg => hN0 _ (Option.some.inj hg).symm _ (Az [] rfl rfl rfl (oR (oR (oR (oR (Aj (Au (E := Ah.E) _ false) (oR (oR A6))))))) A0)
      · exact fun hg => hN0 _ (Option.some.inj hg).symm _ (Az [] rfl rfl rfl (oR (oR (oR (oR (Aj (Au (E := Ah.E) _ false) (oR (oR A6))))))) A0)
  · exact fun hg => D4 rfl (hR _ (Option.some.inj hg).symm) (fS (fS Bu))
theorem lV (n : Nat) (a1 : Int) (c4 : Int) (c5 : Bool) (x151 : List Ah) (c21 : Int) {t : Vn} (R : AV → Mem → Prop) (hR : ∀ r : Vn, t = r → ∀ u m, Cu ((AV.tup [(Aa r.1), (Ac r.2)])) u m → R u m) (k : Nat) (x : Int × Int) (hx : Ba (fun y : Int × Int => L9 n a1 c4 c5 x151 c21 y.1 y.2) k x = some t) {s : St} (hw : Bo KK 44 0 s (S4 a1 c4 c5 x.1 (Am Ah.E x151) c21 x.2 [])) : Ca pg KK 44 0 (.loop cC) s (dE R ) :=
  Ad6 R  (σ := Nat × (Int × Int)) (fun z => Ba (fun y : Int × Int => L9 n a1 c4 c5 x151 c21 y.1 y.2) z.1 z.2 = some t) (fun z => a1) (fun z => c4) (fun z => c5) (fun z => z.2.1) (fun z => (Am Ah.E x151)) (fun z => c21) (fun z => z.2.2) (fun z => []) (fun z => z.1) (by
    rintro ⟨k, y⟩ h
    cases k with
    | zero => exact (Bp h).elim
    | succ k =>
      obtain ⟨u, h1, h2, h3⟩ := Bq h
      exact o6 n a1 c4 c5 x151 c21 y.1 y.2 R  _ (fun r e => hR r (h3 _ e).symm)  (fun y' e s' hw => ⟨(k, y'), h2 _ e, Nat.lt_succ_self k, hw⟩) h1) (k, x) hx hw
theorem yJ (n : Nat) (a0 : List Ah) (a1 : Int) {t : Vn} (R : AV → Mem → Prop) (hR : ∀ r : Vn, t = r → ∀ u m, Cu ((AV.tup [(Aa r.1), (Ac r.2)])) u m → R u m) : y1 n a0 a1 = some t → F46 (Am Ah.E a0) a1 R := by
  unfold y1 F46
  refine Aq fun x149 h149 => ?_
  refine iq (AV.B8 [(Aa x149.B6), (Aa x149.End)] 0) (Bk (E := Ah.E) rfl h149) ?_
  refine iq (AV.B8 [(Aa x149.B6), (Aa x149.End)] 0) rfl ?_
  refine iq (Aa x149.B6) rfl ?_
  refine imp Ai ?_
  refine An (fun _ => ?_) (fun _ => ?_)
  · exact fun hg => D4 rfl (hR _ (Option.some.inj hg).symm) (fS (fS Bu))
  · refine Aq fun x150 h150 => ?_
    refine iq (AV.B8 [(Aa x150.B6), (Aa x150.End)] 0) (Bk (E := Ah.E) rfl h150) ?_
    refine iq (AV.B8 [(Aa x150.B6), (Aa x150.End)] 1) rfl ?_
    refine iq (Aa x150.End) rfl ?_
    refine imp Ai ?_
    refine Aq fun x151 h151 => ?_
    refine iq (Am Ah.E x151) (Abj (E := Ah.E) (e := 39) (by kernel_rfl) (by kernel_rfl) rfl h151) ?_
    refine iq (Aa (x151.length : Int)) rfl ?_
    refine imp Ai ?_
    exact fun hg => lV n a1 (0) false x151 (x151.length : Int) R  hR n _ hg (Az [] rfl rfl rfl (oR (oR (oR (oR (Aj (Au (E := Ah.E) _ false) (oR (oR A6))))))) A0)
theorem Aco {n : Nat} {a0 : List Ah} {a1 : Int} {t : Vn} (h : y1 n a0 a1 = some t) : C3 pg KK.gl 46 [(Am Ah.E a0), (Aa a1)] ((AV.tup [(Aa t.1), (Ac t.2)])) :=
  A5 (by first | rfl | simp [As, clean, Ak, En.Di]) (by first | rfl | simp [As, clean, Ak, En.Di]) (rO (Am Ah.E a0) a1 _ (yJ n a0 a1 (Cu ((AV.tup [(Aa t.1), (Ac t.2)]))) (fun r e u m h => by rw [e]; exact h) h))
theorem zA (n : Nat) (a0 : Ao) (a1 : Ab) (a2 : Ab) {t : rG} (R : AV → Mem → Prop) (hR : ∀ r : rG, t = r → ∀ u m, Cu ((Aa r)) u m → R u m) : jW n a0 a1 a2 = some t → F47 a0.Cf a0.Ce a0.Ci a0.Cn a0.Cd a0.Cl a0.Cr a0.Co a0.Cm a0.Ck a0.Ch a0.Cg a0.Cb a0.Cj a0.Cq a0.Cp a1.Time a1.Bc a1.Bd a1.End a2.Time a2.Bc a2.Bd a2.End R := by
  unfold jW F47
  refine iq (Ac (!(a1.Bd == a2.Bd))) (by kernel_rfl) ?_
  refine imp Dk ?_
  refine An (fun _ => ?_) (fun _ => ?_)
  · exact Df hR rfl rfl
  · refine Aq fun x157 h157 => ?_
    refine iq (AV.ptr 0 (((a1.Bc : Int).toNat) * 4 + 0)) (I8 (l := ([(⟨a0.Cf, a0.Ce, a0.Ci, a0.Cn⟩ : Dw), (⟨a0.Cd, a0.Cl, a0.Cr, a0.Co⟩ : Dw), (⟨a0.Cm, a0.Ck, a0.Ch, a0.Cg⟩ : Dw), (⟨a0.Cb, a0.Cj, a0.Cq, a0.Cp⟩ : Dw)] : List Dw)) (len := 4) rfl h157) ?_
    refine Aq fun x158 h158 => ?_
    refine iq (AV.ptr 0 _) (Jm (l := ([x157.c0, x157.c1, x157.c2, x157.c3] : List Int)) (len := 4) rfl h158) ?_
    refine iq (Aa x158) (Lg (E := Dw.E) (E2 := A2) (l := ([(⟨a0.Cf, a0.Ce, a0.Ci, a0.Cn⟩ : Dw), (⟨a0.Cd, a0.Cl, a0.Cr, a0.Co⟩ : Dw), (⟨a0.Cm, a0.Ck, a0.Ch, a0.Cg⟩ : Dw), (⟨a0.Cb, a0.Cj, a0.Cq, a0.Cp⟩ : Dw)] : List Dw)) (l2 := ([x157.c0, x157.c1, x157.c2, x157.c3] : List Int)) (ty := 25) (by first | rfl | (simp (disch := first | decide | assumption) only [lk])) (B7 h157).2 rfl rfl (B7 h158).2 rfl) ?_
    refine imp Ai ?_
    exact Df hR rfl rfl
theorem uQ {n : Nat} {a0 : Ao} {a1 : Ab} {a2 : Ab} {t : rG} (h : jW n a0 a1 a2 = some t) : C3 pg KK.gl 47 [(AV.agg [(Aa a0.Cf), (Aa a0.Ce), (Aa a0.Ci), (Aa a0.Cn), (Aa a0.Cd), (Aa a0.Cl), (Aa a0.Cr), (Aa a0.Co), (Aa a0.Cm), (Aa a0.Ck), (Aa a0.Ch), (Aa a0.Cg), (Aa a0.Cb), (Aa a0.Cj), (Aa a0.Cq), (Aa a0.Cp)]), (AV.agg [(Aa a1.Time), (Aa a1.Bc), (Ac a1.Bd), (Aa a1.End)]), (AV.agg [(Aa a2.Time), (Aa a2.Bc), (Ac a2.Bd), (Aa a2.End)])] ((Aa t)) :=
  A5 (by first | rfl | simp [As, clean, Ak, En.Di]) (by first | rfl | simp [As, clean, Ak, En.Di]) (uC a0.Cf a0.Ce a0.Ci a0.Cn a0.Cd a0.Cl a0.Cr a0.Co a0.Cm a0.Ck a0.Ch a0.Cg a0.Cb a0.Cj a0.Cq a0.Cp a1.Time a1.Bc a1.Bd a1.End a2.Time a2.Bc a2.Bd a2.End _ (zA n a0 a1 a2 (Cu ((Aa t))) (fun r e u m h => by rw [e]; exact h) h))
theorem fV (n : Nat) (a0 : List Ab) (c6 : Int) (v61 : Int) (c60 : Int) (k0_0 : Int) (k0_1 : Int) (k0_2 : Int) (k0_3 : Int) (k0_4 : Int) (k0_5 : Int) (k0_6 : Int) (k0_7 : Int) (k0_8 : Int) (k0_9 : Int) (k0_10 : Int) (k0_11 : Int) (k0_12 : Int) (k0_13 : Int) (k0_14 : Int) (k0_15 : Int) (k200004_0 : Int) (k200004_1 : Int) (k200004_2 : Bool) (k200004_3 : Int) (w18 : Int) {t : (Int) ⊕ ((Int) ⊕ V4)} (R : AV → Mem → Prop) (N0 : St → Prop) (N1 : St → Prop) (hR : ∀ r : V4, t = (.inr (.inr r)) → ∀ u m, Cu ((AV.tup [(Aa r.1), (Aa r.2.1), (Aa r.2.2)])) u m → R u m) (hN0 : ∀ y : Int, t = (.inr (.inl y)) → ∀ s' : St, Bo KK 93 0 s' (Xd (Am Ab.E a0) c6 c6 c6 (Am Ab.E a0) c60 y k0_0 k0_1 k0_2 k0_3 k0_4 k0_5 k0_6 k0_7 k0_8 k0_9 k0_10 k0_11 k0_12 k0_13 k0_14 k0_15 []) → N0 s') (hN1 : ∀ y : Int, t = (.inl y) → ∀ s' : St, Bo KK 93 0 s' (N9 (Am Ab.E a0) c6 c6 c6 v61 y (Am Ab.E a0) c60 v61 k0_0 k0_1 k0_2 k0_3 k0_4 k0_5 k0_6 k0_7 k0_8 k0_9 k0_10 k0_11 k0_12 k0_13 k0_14 k0_15 k200004_0 k200004_1 k200004_2 k200004_3 []) → N1 s') : Mf n a0 c6 v61 c60 k0_0 k0_1 k0_2 k0_3 k0_4 k0_5 k0_6 k0_7 k0_8 k0_9 k0_10 k0_11 k0_12 k0_13 k0_14 k0_15 k200004_0 k200004_1 k200004_2 k200004_3 w18 = some t → Ui (Am Ab.E a0) c6 c6 c6 v61 w18 (Am Ab.E a0) c60 v61 k0_0 k0_1 k0_2 k0_3 k0_4 k0_5 k0_6 k0_7 k0_8 k0_9 k0_10 k0_11 k0_12 k0_13 k0_14 k0_15 k200004_0 k200004_1 k200004_2 k200004_3 [] R N0 N1 := by
  unfold Mf Ui
  refine iq (Aa (a0.length : Int)) rfl ?_
  refine imp Ai ?_
  refine An (fun _ => ?_) (fun _ => ?_)
  · refine Aq fun x155 h155 => ?_
    refine iq (AV.B8 [(Aa x155.Time), (Aa x155.Bc), (Ac x155.Bd), (Aa x155.End)] 0) (Bk (E := Ab.E) rfl h155) ?_
    refine iq (AV.B8 [(Aa x155.Time), (Aa x155.Bc), (Ac x155.Bd), (Aa x155.End)] 0) rfl ?_
    refine iq (Aa x155.Time) rfl ?_
    refine imp Ai ?_
    refine Aq fun x156 h156 => ?_
    refine iq (AV.B8 [(Aa x156.Time), (Aa x156.Bc), (Ac x156.Bd), (Aa x156.End)] 0) (Bk (E := Ab.E) rfl h156) ?_
    refine iq (AV.agg [(Aa x156.Time), (Aa x156.Bc), (Ac x156.Bd), (Aa x156.End)]) rfl ?_
    refine imp Fc ?_
    iterate 2 refine imp Ai ?_
    refine imp Dk ?_
    refine imp Ai ?_
    refine Aq fun x159 h159 => ?_
    refine imp (A1 (uQ h159)) ?_
    refine imp Ai ?_
    refine An (fun _ => ?_) (fun _ => ?_)
    · exact fun hg => D4 rfl (hR _ (Option.some.inj hg).symm) (fS (fS (fS Bu)))
    · exact fun hg => hN1 _ (Option.some.inj hg).symm _ (Az [(0, 0), (200004, 200004)] rfl rfl rfl (Aj (Au (E := Ab.E) _ false) (oR (oR (oR (oR (oR (oR (oR (Aj (Au (E := Ab.E) _ false) (oR (oR A6))))))))))) (A3 (Be (cs := [(Aa k0_0), (Aa k0_1), (Aa k0_2), (Aa k0_3), (Aa k0_4), (Aa k0_5), (Aa k0_6), (Aa k0_7), (Aa k0_8), (Aa k0_9), (Aa k0_10), (Aa k0_11), (Aa k0_12), (Aa k0_13), (Aa k0_14), (Aa k0_15)]) (ty := 25) rfl (show Al _ 0 = _ from (by first | rfl | (simp (disch := first | decide | assumption) only [lk])))) (A3 (Be (cs := [(Aa k200004_0), (Aa k200004_1), (Ac k200004_2), (Aa k200004_3)]) (ty := 37) rfl (show Al _ 200004 = _ from (by first | rfl | (simp (disch := first | decide | assumption) only [lk])))) A0)))
  · exact fun hg => hN0 _ (Option.some.inj hg).symm _ (Az [(0, 0)] rfl rfl rfl (Aj (Au (E := Ab.E) _ false) (oR (oR (oR (oR (Aj (Au (E := Ab.E) _ false) (oR (oR A6)))))))) (A3 (Be (cs := [(Aa k0_0), (Aa k0_1), (Aa k0_2), (Aa k0_3), (Aa k0_4), (Aa k0_5), (Aa k0_6), (Aa k0_7), (Aa k0_8), (Aa k0_9), (Aa k0_10), (Aa k0_11), (Aa k0_12), (Aa k0_13), (Aa k0_14), (Aa k0_15)]) (ty := 25) rfl (show Al _ 0 = _ from (by first | rfl | (simp (disch := first | decide | assumption) only [lk])))) A0))
theorem iN (n : Nat) (a0 : List Ab) (c6 : Int) (v61 : Int) (c60 : Int) (k0_0 : Int) (k0_1 : Int) (k0_2 : Int) (k0_3 : Int) (k0_4 : Int) (k0_5 : Int) (k0_6 : Int) (k0_7 : Int) (k0_8 : Int) (k0_9 : Int) (k0_10 : Int) (k0_11 : Int) (k0_12 : Int) (k0_13 : Int) (k0_14 : Int) (k0_15 : Int) (k200004_0 : Int) (k200004_1 : Int) (k200004_2 : Bool) (k200004_3 : Int) {t : ((Int) ⊕ V4)} (R : AV → Mem → Prop) (N0 : St → Prop) (hR : ∀ r : V4, t = (.inr r) → ∀ u m, Cu ((AV.tup [(Aa r.1), (Aa r.2.1), (Aa r.2.2)])) u m → R u m) (hN0 : ∀ y : Int, t = (.inl y) → ∀ s' : St, Bo KK 93 0 s' (Xd (Am Ab.E a0) c6 c6 c6 (Am Ab.E a0) c60 y k0_0 k0_1 k0_2 k0_3 k0_4 k0_5 k0_6 k0_7 k0_8 k0_9 k0_10 k0_11 k0_12 k0_13 k0_14 k0_15 []) → N0 s') (k : Nat) (x : Int) (hx : Ba (fun y : Int => Mf n a0 c6 v61 c60 k0_0 k0_1 k0_2 k0_3 k0_4 k0_5 k0_6 k0_7 k0_8 k0_9 k0_10 k0_11 k0_12 k0_13 k0_14 k0_15 k200004_0 k200004_1 k200004_2 k200004_3 y) k x = some t) {s : St} (hw : Bo KK 93 0 s (N9 (Am Ab.E a0) c6 c6 c6 v61 x (Am Ab.E a0) c60 v61 k0_0 k0_1 k0_2 k0_3 k0_4 k0_5 k0_6 k0_7 k0_8 k0_9 k0_10 k0_11 k0_12 k0_13 k0_14 k0_15 k200004_0 k200004_1 k200004_2 k200004_3 [])) : Ca pg KK 93 0 (.loop Vr) s (Vx R N0) :=
  Abm R N0 (σ := Nat × (Int)) (fun z => Ba (fun y : Int => Mf n a0 c6 v61 c60 k0_0 k0_1 k0_2 k0_3 k0_4 k0_5 k0_6 k0_7 k0_8 k0_9 k0_10 k0_11 k0_12 k0_13 k0_14 k0_15 k200004_0 k200004_1 k200004_2 k200004_3 y) z.1 z.2 = some t) (fun z => (Am Ab.E a0)) (fun z => c6) (fun z => c6) (fun z => c6) (fun z => v61) (fun z => z.2) (fun z => (Am Ab.E a0)) (fun z => c60) (fun z => v61) (fun z => k0_0) (fun z => k0_1) (fun z => k0_2) (fun z => k0_3) (fun z => k0_4) (fun z => k0_5) (fun z => k0_6) (fun z => k0_7) (fun z => k0_8) (fun z => k0_9) (fun z => k0_10) (fun z => k0_11) (fun z => k0_12) (fun z => k0_13) (fun z => k0_14) (fun z => k0_15) (fun z => k200004_0) (fun z => k200004_1) (fun z => k200004_2) (fun z => k200004_3) (fun z => []) (fun z => z.1) (by
    rintro ⟨k, y⟩ h
    cases k with
    | zero => exact (Bp h).elim
    | succ k =>
      obtain ⟨u, h1, h2, h3⟩ := Bq h
      exact fV n a0 c6 v61 c60 k0_0 k0_1 k0_2 k0_3 k0_4 k0_5 k0_6 k0_7 k0_8 k0_9 k0_10 k0_11 k0_12 k0_13 k0_14 k0_15 k200004_0 k200004_1 k200004_2 k200004_3 y R N0 _ (fun r e => hR r (h3 _ e).symm) (fun y' e => hN0 y' (h3 _ e).symm) (fun y' e s' hw => ⟨(k, y'), h2 _ e, Nat.lt_succ_self k, hw⟩) h1) (k, x) hx hw
theorem uG (n : Nat) (a0 : List Ab) (c6 : Int) (c60 : Int) (k0_0 : Int) (k0_1 : Int) (k0_2 : Int) (k0_3 : Int) (k0_4 : Int) (k0_5 : Int) (k0_6 : Int) (k0_7 : Int) (k0_8 : Int) (k0_9 : Int) (k0_10 : Int) (k0_11 : Int) (k0_12 : Int) (k0_13 : Int) (k0_14 : Int) (k0_15 : Int) (v61 : Int) {t : (Int) ⊕ V4} (R : AV → Mem → Prop) (N0 : St → Prop) (hR : ∀ r : V4, t = (.inr r) → ∀ u m, Cu ((AV.tup [(Aa r.1), (Aa r.2.1), (Aa r.2.2)])) u m → R u m) (hN0 : ∀ y : Int, t = (.inl y) → ∀ s' : St, Bo KK 93 0 s' (Xd (Am Ab.E a0) c6 c6 c6 (Am Ab.E a0) c60 y k0_0 k0_1 k0_2 k0_3 k0_4 k0_5 k0_6 k0_7 k0_8 k0_9 k0_10 k0_11 k0_12 k0_13 k0_14 k0_15 []) → N0 s') : Yf n a0 c6 c60 k0_0 k0_1 k0_2 k0_3 k0_4 k0_5 k0_6 k0_7 k0_8 k0_9 k0_10 k0_11 k0_12 k0_13 k0_14 k0_15 v61 = some t → qY (Am Ab.E a0) c6 c6 c6 (Am Ab.E a0) c60 v61 k0_0 k0_1 k0_2 k0_3 k0_4 k0_5 k0_6 k0_7 k0_8 k0_9 k0_10 k0_11 k0_12 k0_13 k0_14 k0_15 [] R N0 := by
  unfold Yf qY
  refine An (fun _ => ?_) (fun _ => ?_)
  · refine Aq fun x154 h154 => ?_
    refine iq (AV.B8 [(Aa x154.Time), (Aa x154.Bc), (Ac x154.Bd), (Aa x154.End)] 0) (Bk (E := Ab.E) rfl h154) ?_
    refine iq (AV.agg [(Aa x154.Time), (Aa x154.Bc), (Ac x154.Bd), (Aa x154.End)]) rfl ?_
    refine imp Fc ?_
    iterate 2 refine imp Ai ?_
    refine imp Dk ?_
    refine imp Ai ?_
    exact fun hg => iN n a0 c6 v61 c60 k0_0 k0_1 k0_2 k0_3 k0_4 k0_5 k0_6 k0_7 k0_8 k0_9 k0_10 k0_11 k0_12 k0_13 k0_14 k0_15 x154.Time x154.Bc x154.Bd x154.End R N0 hR hN0 n _ hg (Az [(0, 0), (200004, 200004)] rfl rfl rfl (Aj (Au (E := Ab.E) _ false) (oR (oR (oR (oR (oR (oR (oR (Aj (Au (E := Ab.E) _ false) (oR (oR A6))))))))))) (A3 (Be (cs := [(Aa k0_0), (Aa k0_1), (Aa k0_2), (Aa k0_3), (Aa k0_4), (Aa k0_5), (Aa k0_6), (Aa k0_7), (Aa k0_8), (Aa k0_9), (Aa k0_10), (Aa k0_11), (Aa k0_12), (Aa k0_13), (Aa k0_14), (Aa k0_15)]) (ty := 25) rfl (show Al _ 0 = _ from (by first | rfl | (simp (disch := first | decide | assumption) only [lk])))) (A3 (Be (cs := [(Aa x154.Time), (Aa x154.Bc), (Ac x154.Bd), (Aa x154.End)]) (ty := 37) rfl (show Al _ 200004 = _ from (by first | rfl | (simp (disch := first | decide | assumption) only [lk])))) A0)))
  · exact fun hg => D4 rfl (hR _ (Option.some.inj hg).symm) (fS (fS (fS Bu)))
theorem u3 (n : Nat) (a0 : List Ab) (c6 : Int) (c60 : Int) (k0_0 : Int) (k0_1 : Int) (k0_2 : Int) (k0_3 : Int) (k0_4 : Int) (k0_5 : Int) (k0_6 : Int) (k0_7 : Int) (k0_8 : Int) (k0_9 : Int) (k0_10 : Int) (k0_11 : Int) (k0_12 : Int) (k0_13 : Int) (k0_14 : Int) (k0_15 : Int) {t : V4} (R : AV → Mem → Prop) (hR : ∀ r : V4, t = r → ∀ u m, Cu ((AV.tup [(Aa r.1), (Aa r.2.1), (Aa r.2.2)])) u m → R u m) (k : Nat) (x : Int) (hx : Ba (fun y : Int => Yf n a0 c6 c60 k0_0 k0_1 k0_2 k0_3 k0_4 k0_5 k0_6 k0_7 k0_8 k0_9 k0_10 k0_11 k0_12 k0_13 k0_14 k0_15 y) k x = some t) {s : St} (hw : Bo KK 93 0 s (Xd (Am Ab.E a0) c6 c6 c6 (Am Ab.E a0) c60 x k0_0 k0_1 k0_2 k0_3 k0_4 k0_5 k0_6 k0_7 k0_8 k0_9 k0_10 k0_11 k0_12 k0_13 k0_14 k0_15 [])) : Ca pg KK 93 0 (.loop iO) s (vQ R ) :=
  Af1 R  (σ := Nat × (Int)) (fun z => Ba (fun y : Int => Yf n a0 c6 c60 k0_0 k0_1 k0_2 k0_3 k0_4 k0_5 k0_6 k0_7 k0_8 k0_9 k0_10 k0_11 k0_12 k0_13 k0_14 k0_15 y) z.1 z.2 = some t) (fun z => (Am Ab.E a0)) (fun z => c6) (fun z => c6) (fun z => c6) (fun z => (Am Ab.E a0)) (fun z => c60) (fun z => z.2) (fun z => k0_0) (fun z => k0_1) (fun z => k0_2) (fun z => k0_3) (fun z => k0_4) (fun z => k0_5) (fun z => k0_6) (fun z => k0_7) (fun z => k0_8) (fun z => k0_9) (fun z => k0_10) (fun z => k0_11) (fun z => k0_12) (fun z => k0_13) (fun z => k0_14) (fun z => k0_15) (fun z => []) (fun z => z.1) (by
    rintro ⟨k, y⟩ h
    cases k with
    | zero => exact (Bp h).elim
    | succ k =>
      obtain ⟨u, h1, h2, h3⟩ := Bq h
      exact uG n a0 c6 c60 k0_0 k0_1 k0_2 k0_3 k0_4 k0_5 k0_6 k0_7 k0_8 k0_9 k0_10 k0_11 k0_12 k0_13 k0_14 k0_15 y R  _ (fun r e => hR r (h3 _ e).symm)  (fun y' e s' hw => ⟨(k, y'), h2 _ e, Nat.lt_succ_self k, hw⟩) h1) (k, x) hx hw
theorem tR (n : Nat) (a0 : List Ab) (a1 : List Ah) (c6 : Int) (c35 : Int) (k0_0 : Int) (k0_1 : Int) (k0_2 : Int) (k0_3 : Int) (k0_4 : Int) (k0_5 : Int) (k0_6 : Int) (k0_7 : Int) (k0_8 : Int) (k0_9 : Int) (k0_10 : Int) (k0_11 : Int) (k0_12 : Int) (k0_13 : Int) (k0_14 : Int) (k0_15 : Int) (v36 : Int) {t : (Int) ⊕ V4} (R : AV → Mem → Prop) (N0 : St → Prop) (hR : ∀ r : V4, t = (.inr r) → ∀ u m, Cu ((AV.tup [(Aa r.1), (Aa r.2.1), (Aa r.2.2)])) u m → R u m) (hN0 : ∀ y : Int, t = (.inl y) → ∀ s' : St, Bo KK 93 0 s' (iH (Am Ab.E a0) (Am Ah.E a1) c6 c6 c6 (Am Ab.E a0) c35 y k0_0 k0_1 k0_2 k0_3 k0_4 k0_5 k0_6 k0_7 k0_8 k0_9 k0_10 k0_11 k0_12 k0_13 k0_14 k0_15 []) → N0 s') : X5 n a0 a1 c6 c35 k0_0 k0_1 k0_2 k0_3 k0_4 k0_5 k0_6 k0_7 k0_8 k0_9 k0_10 k0_11 k0_12 k0_13 k0_14 k0_15 v36 = some t → qH (Am Ab.E a0) (Am Ah.E a1) c6 c6 c6 (Am Ab.E a0) c35 v36 k0_0 k0_1 k0_2 k0_3 k0_4 k0_5 k0_6 k0_7 k0_8 k0_9 k0_10 k0_11 k0_12 k0_13 k0_14 k0_15 [] R N0 := by
  unfold X5 qH
  refine An (fun _ => ?_) (fun _ => ?_)
  · refine Aq fun x148 h148 => ?_
    refine iq (AV.B8 [(Aa x148.Time), (Aa x148.Bc), (Ac x148.Bd), (Aa x148.End)] 0) (Bk (E := Ab.E) rfl h148) ?_
    refine iq (AV.agg [(Aa x148.Time), (Aa x148.Bc), (Ac x148.Bd), (Aa x148.End)]) rfl ?_
    refine imp Fc ?_
    iterate 2 refine imp Ai ?_
    refine imp Dk ?_
    refine imp Ai ?_
    refine Aq fun x153 h153 => ?_
    refine imp (A1 (Aco h153)) ?_
    refine imp E5 ?_
    refine imp Ai ?_
    refine imp Dk ?_
    refine An (fun _ => ?_) (fun _ => ?_)
    · exact fun hg => D4 rfl (hR _ (Option.some.inj hg).symm) (fS (fS (fS Bu)))
    · refine An (fun _ => ?_) (fun _ => ?_)
      · exact fun hg => D4 rfl (hR _ (Option.some.inj hg).symm) (fS (fS (fS Bu)))
      · exact fun hg => hN0 _ (Option.some.inj hg).symm _ (Az [(0, 0)] rfl rfl rfl (Aj (Au (E := Ab.E) _ false) (Aj (Au (E := Ah.E) _ false) (oR (oR (oR (oR (Aj (Au (E := Ab.E) _ false) (oR (oR A6))))))))) (A3 (Be (cs := [(Aa k0_0), (Aa k0_1), (Aa k0_2), (Aa k0_3), (Aa k0_4), (Aa k0_5), (Aa k0_6), (Aa k0_7), (Aa k0_8), (Aa k0_9), (Aa k0_10), (Aa k0_11), (Aa k0_12), (Aa k0_13), (Aa k0_14), (Aa k0_15)]) (ty := 25) rfl (show Al _ 0 = _ from (by first | rfl | (simp (disch := first | decide | assumption) only [lk])))) A0))
  · refine iq (Aa (a0.length : Int)) rfl ?_
    refine imp Ai ?_
    refine Xs fun t0 e0 => ?_
    exact fun hg => u3 n a0 c6 (a0.length : Int) k0_0 k0_1 k0_2 k0_3 k0_4 k0_5 k0_6 k0_7 k0_8 k0_9 k0_10 k0_11 k0_12 k0_13 k0_14 k0_15 R  (fun r e => hR r (e0.trans (congrArg Sum.inr e))) n _ hg (Az [(0, 0)] rfl rfl rfl (Aj (Au (E := Ab.E) _ false) (oR (oR (oR (oR (Aj (Au (E := Ab.E) _ false) (oR (oR A6)))))))) (A3 (Be (cs := [(Aa k0_0), (Aa k0_1), (Aa k0_2), (Aa k0_3), (Aa k0_4), (Aa k0_5), (Aa k0_6), (Aa k0_7), (Aa k0_8), (Aa k0_9), (Aa k0_10), (Aa k0_11), (Aa k0_12), (Aa k0_13), (Aa k0_14), (Aa k0_15)]) (ty := 25) rfl (show Al _ 0 = _ from (by first | rfl | (simp (disch := first | decide | assumption) only [lk])))) A0))
theorem sY (n : Nat) (a0 : List Ab) (a1 : List Ah) (c6 : Int) (c35 : Int) (k0_0 : Int) (k0_1 : Int) (k0_2 : Int) (k0_3 : Int) (k0_4 : Int) (k0_5 : Int) (k0_6 : Int) (k0_7 : Int) (k0_8 : Int) (k0_9 : Int) (k0_10 : Int) (k0_11 : Int) (k0_12 : Int) (k0_13 : Int) (k0_14 : Int) (k0_15 : Int) {t : V4} (R : AV → Mem → Prop) (hR : ∀ r : V4, t = r → ∀ u m, Cu ((AV.tup [(Aa r.1), (Aa r.2.1), (Aa r.2.2)])) u m → R u m) (k : Nat) (x : Int) (hx : Ba (fun y : Int => X5 n a0 a1 c6 c35 k0_0 k0_1 k0_2 k0_3 k0_4 k0_5 k0_6 k0_7 k0_8 k0_9 k0_10 k0_11 k0_12 k0_13 k0_14 k0_15 y) k x = some t) {s : St} (hw : Bo KK 93 0 s (iH (Am Ab.E a0) (Am Ah.E a1) c6 c6 c6 (Am Ab.E a0) c35 x k0_0 k0_1 k0_2 k0_3 k0_4 k0_5 k0_6 k0_7 k0_8 k0_9 k0_10 k0_11 k0_12 k0_13 k0_14 k0_15 [])) : Ca pg KK 93 0 (.loop rR) s (wK R ) :=
  Ae0 R  (σ := Nat × (Int)) (fun z => Ba (fun y : Int => X5 n a0 a1 c6 c35 k0_0 k0_1 k0_2 k0_3 k0_4 k0_5 k0_6 k0_7 k0_8 k0_9 k0_10 k0_11 k0_12 k0_13 k0_14 k0_15 y) z.1 z.2 = some t) (fun z => (Am Ab.E a0)) (fun z => (Am Ah.E a1)) (fun z => c6) (fun z => c6) (fun z => c6) (fun z => (Am Ab.E a0)) (fun z => c35) (fun z => z.2) (fun z => k0_0) (fun z => k0_1) (fun z => k0_2) (fun z => k0_3) (fun z => k0_4) (fun z => k0_5) (fun z => k0_6) (fun z => k0_7) (fun z => k0_8) (fun z => k0_9) (fun z => k0_10) (fun z => k0_11) (fun z => k0_12) (fun z => k0_13) (fun z => k0_14) (fun z => k0_15) (fun z => []) (fun z => z.1) (by
    rintro ⟨k, y⟩ h
    cases k with
    | zero => exact (Bp h).elim
    | succ k =>
      obtain ⟨u, h1, h2, h3⟩ := Bq h
      exact tR n a0 a1 c6 c35 k0_0 k0_1 k0_2 k0_3 k0_4 k0_5 k0_6 k0_7 k0_8 k0_9 k0_10 k0_11 k0_12 k0_13 k0_14 k0_15 y R  _ (fun r e => hR r (h3 _ e).symm)  (fun y' e s' hw => ⟨(k, y'), h2 _ e, Nat.lt_succ_self k, hw⟩) h1) (k, x) hx hw
theorem Ab9 (n : Nat) (a0 : List Ab) (a1 : List Ah) (a2 : Ao) {t : V4} (R : AV → Mem → Prop) (hR : ∀ r : V4, t = r → ∀ u m, Cu ((AV.tup [(Aa r.1), (Aa r.2.1), (Aa r.2.2)])) u m → R u m) : g7 n a0 a1 a2 = some t → F7 (Am Ab.E a0) (Am Ah.E a1) a2.Cf a2.Ce a2.Ci a2.Cn a2.Cd a2.Cl a2.Cr a2.Co a2.Cm a2.Ck a2.Ch a2.Cg a2.Cb a2.Cj a2.Cq a2.Cp R := by
  unfold g7 F7
  refine Aq fun x136 h136 => ?_
  refine imp (A1 (Aee h136)) ?_
  refine imp Ai ?_
  refine An (fun _ => ?_) (fun _ => ?_)
  · exact fun hg => D4 rfl (hR _ (Option.some.inj hg).symm) (fS (fS (fS Bu)))
  · refine Aq fun x146 h146 => ?_
    refine imp (A1 (Aeu h146)) ?_
    refine imp Ai ?_
    refine An (fun _ => ?_) (fun _ => ?_)
    · exact fun hg => D4 rfl (hR _ (Option.some.inj hg).symm) (fS (fS (fS Bu)))
    · refine Aq fun x147 h147 => ?_
      refine imp (A1 (yI h147)) ?_
      refine imp Ai ?_
      refine An (fun _ => ?_) (fun _ => ?_)
      · exact fun hg => D4 rfl (hR _ (Option.some.inj hg).symm) (fS (fS (fS Bu)))
      · refine iq (Aa (a0.length : Int)) rfl ?_
        refine imp Ai ?_
        exact fun hg => sY n a0 a1 (0) (a0.length : Int) a2.Cf a2.Ce a2.Ci a2.Cn a2.Cd a2.Cl a2.Cr a2.Co a2.Cm a2.Ck a2.Ch a2.Cg a2.Cb a2.Cj a2.Cq a2.Cp R  hR n _ hg (Az [(0, 0)] rfl rfl rfl (Aj (Au (E := Ab.E) _ false) (Aj (Au (E := Ah.E) _ false) (oR (oR (oR (oR (Aj (Au (E := Ab.E) _ false) (oR (oR A6))))))))) (A3 (Be (cs := [(Aa a2.Cf), (Aa a2.Ce), (Aa a2.Ci), (Aa a2.Cn), (Aa a2.Cd), (Aa a2.Cl), (Aa a2.Cr), (Aa a2.Co), (Aa a2.Cm), (Aa a2.Ck), (Aa a2.Ch), (Aa a2.Cg), (Aa a2.Cb), (Aa a2.Cj), (Aa a2.Cq), (Aa a2.Cp)]) (ty := 25) rfl (show Al _ 0 = _ from (by first | rfl | (simp (disch := first | decide | assumption) only [lk])))) A0))
theorem sg7 {n : Nat} {a0 : List Ab} {a1 : List Ah} {a2 : Ao} {t : V4} (h : g7 n a0 a1 a2 = some t) : C3 pg KK.gl 7 [(Am Ab.E a0), (Am Ah.E a1), (AV.agg [(Aa a2.Cf), (Aa a2.Ce), (Aa a2.Ci), (Aa a2.Cn), (Aa a2.Cd), (Aa a2.Cl), (Aa a2.Cr), (Aa a2.Co), (Aa a2.Cm), (Aa a2.Ck), (Aa a2.Ch), (Aa a2.Cg), (Aa a2.Cb), (Aa a2.Cj), (Aa a2.Cq), (Aa a2.Cp)])] ((AV.tup [(Aa t.1), (Aa t.2.1), (Aa t.2.2)])) :=
  A5 (by first | rfl | simp [As, clean, Ak, En.Di]) (by first | rfl | simp [As, clean, Ak, En.Di]) (Aby (Am Ab.E a0) (Am Ah.E a1) a2.Cf a2.Ce a2.Ci a2.Cn a2.Cd a2.Cl a2.Cr a2.Co a2.Cm a2.Ck a2.Ch a2.Cg a2.Cb a2.Cj a2.Cq a2.Cp _ (Ab9 n a0 a1 a2 (Cu ((AV.tup [(Aa t.1), (Aa t.2.1), (Aa t.2.2)]))) (fun r e u m h => by rw [e]; exact h) h))
theorem kW (n : Nat) (a0 : List Int) (a1 : Int) (c4 : Bool) (Oh : Int) (v12 : Int) (L90000 : List Bool) {t : (Int × List Bool) ⊕ Uz} (R : AV → Mem → Prop) (N0 : St → Prop) (hR : ∀ r : Uz, t = (.inr r) → ∀ u m, Cu ((Ac r)) u m → R u m) (hN0 : ∀ y : Int × List Bool, t = (.inl y) → ∀ s' : St, Bo KK 37 0 s' (Tn (Am A2 a0) a1 c4 (Eu Fp 90000 y.2) (Am A2 a0) Oh y.1 [(90000, some ⟨Ay Fp y.2, 4⟩)]) → N0 s') : Hq n a0 a1 c4 Oh v12 L90000 = some t → cH (Am A2 a0) a1 c4 (Eu Fp 90000 L90000) (Am A2 a0) Oh v12 [(90000, some ⟨Ay Fp L90000, 4⟩)] R N0 := by
  unfold Hq cH
  refine An (fun _ => ?_) (fun _ => ?_)
  · refine Aq fun x163 h163 => ?_
    refine iq (AV.B8 [(Aa x163)] 0) (Bk (E := A2) rfl h163) ?_
    refine iq (Aa x163) rfl ?_
    refine imp Ai ?_
    refine An (fun _ => ?_) (fun _ => ?_)
    · exact Df hR rfl rfl
    · refine An (fun _ => ?_) (fun _ => ?_)
      · exact Df hR rfl rfl
      · refine Aq fun x164 h164 => ?_
        refine iq (AV.ptr 90000 (((x163 : Int).toNat) * 1 + 0)) (bT (E := Fp) rfl h164) ?_
        refine iq (Ac x164) (Nv (E := Fp) (l := L90000) (ty := 4) (o := 0) (by first | rfl | (simp (disch := first | decide | assumption) only [lk])) (B7 h164).2 rfl (by decide) rfl) ?_
        refine imp Dk ?_
        refine An (fun _ => ?_) (fun _ => ?_)
        · exact Df hR rfl rfl
        · refine Aq fun x165 h165 => ?_
          refine iq (AV.ptr 90000 (((x163 : Int).toNat) * 1 + 0)) (bT (E := Fp) rfl h165) ?_
          refine imp (Tm (E := Fp) (l := L90000) (i := ((x163 : Int).toNat)) (o := 0) (y := true) (ty := 4) (by kernel_rfl) (by kernel_rfl) rfl (by first | rfl | (simp (disch := first | decide | assumption) only [lk])) (B7 h165).2 rfl (by decide) rfl) ?_
          exact fun hg => hN0 _ (Option.some.inj hg).symm _ (Az [(90000, 90000)] rfl rfl rfl (Aj (Au (E := A2) _ false) (oR (oR (Aj (dD (E := Fp) (id := 90000) (l' := (L90000.set ((x163 : Int).toNat) true)) (by first | rfl | omega | (simp; done) | (simp; omega)) rfl) (Aj (Au (E := A2) _ false) (oR (oR A6))))))) (A3 (Be (cs := Ay Fp (L90000.set ((x163 : Int).toNat) true)) (ty := 4) (Ak _) (show Al _ 90000 = _ from (by first | rfl | (simp (disch := first | decide | assumption) only [lk])))) A0))
  · refine iq (Aa (a0.length : Int)) rfl ?_
    refine imp Ai ?_
    exact Df hR rfl rfl
theorem k9 (n : Nat) (a0 : List Int) (a1 : Int) (c4 : Bool) (Oh : Int) {t : Uz} (R : AV → Mem → Prop) (hR : ∀ r : Uz, t = r → ∀ u m, Cu ((Ac r)) u m → R u m) (k : Nat) (x : Int × List Bool) (hx : Ba (fun y : Int × List Bool => Hq n a0 a1 c4 Oh y.1 y.2) k x = some t) {s : St} (hw : Bo KK 37 0 s (Tn (Am A2 a0) a1 c4 (Eu Fp 90000 x.2) (Am A2 a0) Oh x.1 [(90000, some ⟨Ay Fp x.2, 4⟩)])) : Ca pg KK 37 0 (.loop eE) s (bU R ) :=
  Acq R  (σ := Nat × (Int × List Bool)) (fun z => Ba (fun y : Int × List Bool => Hq n a0 a1 c4 Oh y.1 y.2) z.1 z.2 = some t) (fun z => (Am A2 a0)) (fun z => a1) (fun z => c4) (fun z => (Eu Fp 90000 z.2.2)) (fun z => (Am A2 a0)) (fun z => Oh) (fun z => z.2.1) (fun z => [(90000, some ⟨Ay Fp z.2.2, 4⟩)]) (fun z => z.1) (by
    rintro ⟨k, y⟩ h
    cases k with
    | zero => exact (Bp h).elim
    | succ k =>
      obtain ⟨u, h1, h2, h3⟩ := Bq h
      exact kW n a0 a1 c4 Oh y.1 y.2 R  _ (fun r e => hR r (h3 _ e).symm)  (fun y' e s' hw => ⟨(k, y'), h2 _ e, Nat.lt_succ_self k, hw⟩) h1) (k, x) hx hw
theorem yA (n : Nat) (a0 : List Int) (a1 : Int) {t : Uz} (R : AV → Mem → Prop) (hR : ∀ r : Uz, t = r → ∀ u m, Cu ((Ac r)) u m → R u m) : g48 n a0 a1 = some t → F48 (Am A2 a0) a1 R := by
  unfold g48 F48
  refine Aq fun x162 h162 => ?_
  refine imp (Dl (show _ = some ((Eu Fp 2 (List.replicate x162 false)), [(2, some ⟨Ay Fp (List.replicate x162 false), 4⟩)]) from (yH (E := Fp) (z := false) rfl rfl h162))) ?_
  refine iq (Aa (a0.length : Int)) rfl ?_
  refine imp Ai ?_
  exact fun hg => k9 n a0 a1 false (a0.length : Int) R  hR n _ hg (Az [(90000, 2)] rfl rfl rfl (Aj (Au (E := A2) _ false) (oR (oR (Aj (dD (E := Fp) (id := 2) (l' := (List.replicate x162 false)) rfl rfl) (Aj (Au (E := A2) _ false) (oR (oR A6))))))) (A3 (Be (cs := Ay Fp (List.replicate x162 false)) (ty := 4) (Ak _) (show Al _ 2 = _ from (by first | rfl | (simp (disch := first | decide | assumption) only [lk])))) A0))
theorem Aew {n : Nat} {a0 : List Int} {a1 : Int} {t : Uz} (h : g48 n a0 a1 = some t) : C3 pg KK.gl 48 [(Am A2 a0), (Aa a1)] ((Ac t)) :=
  A5 (by first | rfl | simp [As, clean, Ak, En.Di]) (by first | rfl | simp [As, clean, Ak, En.Di]) (p8 (Am A2 a0) a1 _ (yA n a0 a1 (Cu ((Ac t))) (fun r e u m h => by rw [e]; exact h) h))
theorem Acn (n : Nat) (a0 : List Ad) (a1 : List Int) {t : ρ8} (R : AV → Mem → Prop) (hR : ∀ r : ρ8, t = r → ∀ u m, Cu ((AV.tup [(Aa r.1), (Aa r.2)])) u m → R u m) : g8 n a0 a1 = some t → F8 (Am Ad.E a0) (Am A2 a1) R := by
  unfold g8 F8
  refine Aq fun x161 h161 => ?_
  refine imp (A1 (Ad1 h161)) ?_
  refine imp E5 ?_
  refine imp Ai ?_
  refine An (fun _ => ?_) (fun _ => ?_)
  · exact fun hg => D4 rfl (hR _ (Option.some.inj hg).symm) (fS (fS Bu))
  · refine iq (Aa (a0.length : Int)) rfl ?_
    refine imp Ai ?_
    refine Aq fun x166 h166 => ?_
    refine imp (A1 (Aew h166)) ?_
    refine imp Dk ?_
    refine An (fun _ => ?_) (fun _ => ?_)
    · exact fun hg => D4 rfl (hR _ (Option.some.inj hg).symm) (fS (fS Bu))
    · refine Aq fun x167 h167 => ?_
      refine imp (A1 (zQ h167)) ?_
      refine imp Ai ?_
      exact fun hg => D4 rfl (hR _ (Option.some.inj hg).symm) (fS (fS Bu))
theorem sg8 {n : Nat} {a0 : List Ad} {a1 : List Int} {t : ρ8} (h : g8 n a0 a1 = some t) : C3 pg KK.gl 8 [(Am Ad.E a0), (Am A2 a1)] ((AV.tup [(Aa t.1), (Aa t.2)])) :=
  A5 (by first | rfl | simp [As, clean, Ak, En.Di]) (by first | rfl | simp [As, clean, Ak, En.Di]) (zE (Am Ad.E a0) (Am A2 a1) _ (Acn n a0 a1 (Cu ((AV.tup [(Aa t.1), (Aa t.2)]))) (fun r e u m h => by rw [e]; exact h) h))
theorem kX (n : Nat) (c6 : Bool) (a0 : List Ab) (c10 : Int) (k0_0 : Int) (k0_1 : Int) (k0_2 : Bool) (k0_3 : Int) (k1_0 : Int) (k1_1 : Int) (k1_2 : Int) (k1_3 : Int) (k1_4 : Int) (k1_5 : Int) (k1_6 : Int) (k1_7 : Int) (k1_8 : Int) (k1_9 : Int) (k1_10 : Int) (k1_11 : Int) (k1_12 : Int) (k1_13 : Int) (k1_14 : Int) (k1_15 : Int) (v11 : Int) {t : (Int) ⊕ U0} (R : AV → Mem → Prop) (N0 : St → Prop) (hR : ∀ r : U0, t = (.inr r) → ∀ u m, Cu ((Ac r)) u m → R u m) (hN0 : ∀ y : Int, t = (.inl y) → ∀ s' : St, Bo KK 52 0 s' (Ts c6 (Am Ab.E a0) c10 y k0_0 k0_1 k0_2 k0_3 k1_0 k1_1 k1_2 k1_3 k1_4 k1_5 k1_6 k1_7 k1_8 k1_9 k1_10 k1_11 k1_12 k1_13 k1_14 k1_15 []) → N0 s') : Ly n c6 a0 c10 k0_0 k0_1 k0_2 k0_3 k1_0 k1_1 k1_2 k1_3 k1_4 k1_5 k1_6 k1_7 k1_8 k1_9 k1_10 k1_11 k1_12 k1_13 k1_14 k1_15 v11 = some t → eB c6 (Am Ab.E a0) c10 v11 k0_0 k0_1 k0_2 k0_3 k1_0 k1_1 k1_2 k1_3 k1_4 k1_5 k1_6 k1_7 k1_8 k1_9 k1_10 k1_11 k1_12 k1_13 k1_14 k1_15 [] R N0 := by
  unfold Ly eB
  refine An (fun _ => ?_) (fun _ => ?_)
  · refine Aq fun x175 h175 => ?_
    refine iq (AV.B8 [(Aa x175.Time), (Aa x175.Bc), (Ac x175.Bd), (Aa x175.End)] 0) (Bk (E := Ab.E) rfl h175) ?_
    refine iq (AV.agg [(Aa x175.Time), (Aa x175.Bc), (Ac x175.Bd), (Aa x175.End)]) rfl ?_
    refine imp Fc ?_
    iterate 2 refine imp Ai ?_
    refine imp Dk ?_
    refine imp Ai ?_
    refine An (fun _ => ?_) (fun _ => ?_)
    · refine Aq fun x176 h176 => ?_
      refine imp (A1 (uQ h176)) ?_
      refine imp Ai ?_
      refine An (fun _ => ?_) (fun _ => ?_)
      · exact Df hR rfl rfl
      · refine An (fun _ => ?_) (fun _ => ?_)
        · refine Aq fun x177 h177 => ?_
          refine imp (A1 (uQ h177)) ?_
          refine imp Ai ?_
          refine An (fun _ => ?_) (fun _ => ?_)
          · exact Df hR rfl rfl
          · exact fun hg => hN0 _ (Option.some.inj hg).symm _ (Az [(0, 0), (1, 1)] rfl rfl rfl (oR (oR (oR (Aj (Au (E := Ab.E) _ false) (oR (oR A6)))))) (A3 (Be (cs := [(Aa k0_0), (Aa k0_1), (Ac k0_2), (Aa k0_3)]) (ty := 37) rfl (show Al _ 0 = _ from (by first | rfl | (simp (disch := first | decide | assumption) only [lk])))) (A3 (Be (cs := [(Aa k1_0), (Aa k1_1), (Aa k1_2), (Aa k1_3), (Aa k1_4), (Aa k1_5), (Aa k1_6), (Aa k1_7), (Aa k1_8), (Aa k1_9), (Aa k1_10), (Aa k1_11), (Aa k1_12), (Aa k1_13), (Aa k1_14), (Aa k1_15)]) (ty := 25) rfl (show Al _ 1 = _ from (by first | rfl | (simp (disch := first | decide | assumption) only [lk])))) A0)))
        · exact fun hg => hN0 _ (Option.some.inj hg).symm _ (Az [(0, 0), (1, 1)] rfl rfl rfl (oR (oR (oR (Aj (Au (E := Ab.E) _ false) (oR (oR A6)))))) (A3 (Be (cs := [(Aa k0_0), (Aa k0_1), (Ac k0_2), (Aa k0_3)]) (ty := 37) rfl (show Al _ 0 = _ from (by first | rfl | (simp (disch := first | decide | assumption) only [lk])))) (A3 (Be (cs := [(Aa k1_0), (Aa k1_1), (Aa k1_2), (Aa k1_3), (Aa k1_4), (Aa k1_5), (Aa k1_6), (Aa k1_7), (Aa k1_8), (Aa k1_9), (Aa k1_10), (Aa k1_11), (Aa k1_12), (Aa k1_13), (Aa k1_14), (Aa k1_15)]) (ty := 25) rfl (show Al _ 1 = _ from (by first | rfl | (simp (disch := first | decide | assumption) only [lk])))) A0)))
    · refine An (fun _ => ?_) (fun _ => ?_)
      · refine Aq fun x178 h178 => ?_
        refine imp (A1 (uQ h178)) ?_
        refine imp Ai ?_
        refine An (fun _ => ?_) (fun _ => ?_)
        · exact Df hR rfl rfl
        · exact fun hg => hN0 _ (Option.some.inj hg).symm _ (Az [(0, 0), (1, 1)] rfl rfl rfl (oR (oR (oR (Aj (Au (E := Ab.E) _ false) (oR (oR A6)))))) (A3 (Be (cs := [(Aa k0_0), (Aa k0_1), (Ac k0_2), (Aa k0_3)]) (ty := 37) rfl (show Al _ 0 = _ from (by first | rfl | (simp (disch := first | decide | assumption) only [lk])))) (A3 (Be (cs := [(Aa k1_0), (Aa k1_1), (Aa k1_2), (Aa k1_3), (Aa k1_4), (Aa k1_5), (Aa k1_6), (Aa k1_7), (Aa k1_8), (Aa k1_9), (Aa k1_10), (Aa k1_11), (Aa k1_12), (Aa k1_13), (Aa k1_14), (Aa k1_15)]) (ty := 25) rfl (show Al _ 1 = _ from (by first | rfl | (simp (disch := first | decide | assumption) only [lk])))) A0)))
      · exact fun hg => hN0 _ (Option.some.inj hg).symm _ (Az [(0, 0), (1, 1)] rfl rfl rfl (oR (oR (oR (Aj (Au (E := Ab.E) _ false) (oR (oR A6)))))) (A3 (Be (cs := [(Aa k0_0), (Aa k0_1), (Ac k0_2), (Aa k0_3)]) (ty := 37) rfl (show Al _ 0 = _ from (by first | rfl | (simp (disch := first | decide | assumption) only [lk])))) (A3 (Be (cs := [(Aa k1_0), (Aa k1_1), (Aa k1_2), (Aa k1_3), (Aa k1_4), (Aa k1_5), (Aa k1_6), (Aa k1_7), (Aa k1_8), (Aa k1_9), (Aa k1_10), (Aa k1_11), (Aa k1_12), (Aa k1_13), (Aa k1_14), (Aa k1_15)]) (ty := 25) rfl (show Al _ 1 = _ from (by first | rfl | (simp (disch := first | decide | assumption) only [lk])))) A0)))
  · exact Df hR rfl rfl
theorem oK (n : Nat) (c6 : Bool) (a0 : List Ab) (c10 : Int) (k0_0 : Int) (k0_1 : Int) (k0_2 : Bool) (k0_3 : Int) (k1_0 : Int) (k1_1 : Int) (k1_2 : Int) (k1_3 : Int) (k1_4 : Int) (k1_5 : Int) (k1_6 : Int) (k1_7 : Int) (k1_8 : Int) (k1_9 : Int) (k1_10 : Int) (k1_11 : Int) (k1_12 : Int) (k1_13 : Int) (k1_14 : Int) (k1_15 : Int) {t : U0} (R : AV → Mem → Prop) (hR : ∀ r : U0, t = r → ∀ u m, Cu ((Ac r)) u m → R u m) (k : Nat) (x : Int) (hx : Ba (fun y : Int => Ly n c6 a0 c10 k0_0 k0_1 k0_2 k0_3 k1_0 k1_1 k1_2 k1_3 k1_4 k1_5 k1_6 k1_7 k1_8 k1_9 k1_10 k1_11 k1_12 k1_13 k1_14 k1_15 y) k x = some t) {s : St} (hw : Bo KK 52 0 s (Ts c6 (Am Ab.E a0) c10 x k0_0 k0_1 k0_2 k0_3 k1_0 k1_1 k1_2 k1_3 k1_4 k1_5 k1_6 k1_7 k1_8 k1_9 k1_10 k1_11 k1_12 k1_13 k1_14 k1_15 [])) : Ca pg KK 52 0 (.loop eO) s (dM R ) :=
  Ado R  (σ := Nat × (Int)) (fun z => Ba (fun y : Int => Ly n c6 a0 c10 k0_0 k0_1 k0_2 k0_3 k1_0 k1_1 k1_2 k1_3 k1_4 k1_5 k1_6 k1_7 k1_8 k1_9 k1_10 k1_11 k1_12 k1_13 k1_14 k1_15 y) z.1 z.2 = some t) (fun z => c6) (fun z => (Am Ab.E a0)) (fun z => c10) (fun z => z.2) (fun z => k0_0) (fun z => k0_1) (fun z => k0_2) (fun z => k0_3) (fun z => k1_0) (fun z => k1_1) (fun z => k1_2) (fun z => k1_3) (fun z => k1_4) (fun z => k1_5) (fun z => k1_6) (fun z => k1_7) (fun z => k1_8) (fun z => k1_9) (fun z => k1_10) (fun z => k1_11) (fun z => k1_12) (fun z => k1_13) (fun z => k1_14) (fun z => k1_15) (fun z => []) (fun z => z.1) (by
    rintro ⟨k, y⟩ h
    cases k with
    | zero => exact (Bp h).elim
    | succ k =>
      obtain ⟨u, h1, h2, h3⟩ := Bq h
      exact kX n c6 a0 c10 k0_0 k0_1 k0_2 k0_3 k1_0 k1_1 k1_2 k1_3 k1_4 k1_5 k1_6 k1_7 k1_8 k1_9 k1_10 k1_11 k1_12 k1_13 k1_14 k1_15 y R  _ (fun r e => hR r (h3 _ e).symm)  (fun y' e s' hw => ⟨(k, y'), h2 _ e, Nat.lt_succ_self k, hw⟩) h1) (k, x) hx hw
theorem zH (n : Nat) (a0 : List Ab) (a1 : Ab) (a2 : Ao) {t : U0} (R : AV → Mem → Prop) (hR : ∀ r : U0, t = r → ∀ u m, Cu ((Ac r)) u m → R u m) : g51 n a0 a1 a2 = some t → F51 (Am Ab.E a0) a1.Time a1.Bc a1.Bd a1.End a2.Cf a2.Ce a2.Ci a2.Cn a2.Cd a2.Cl a2.Cr a2.Co a2.Cm a2.Ck a2.Ch a2.Cg a2.Cb a2.Cj a2.Cq a2.Cp R := by
  unfold g51 F51
  refine iq (Aa (a0.length : Int)) rfl ?_
  refine imp Ai ?_
  exact fun hg => oK n false a0 (a0.length : Int) a1.Time a1.Bc a1.Bd a1.End a2.Cf a2.Ce a2.Ci a2.Cn a2.Cd a2.Cl a2.Cr a2.Co a2.Cm a2.Ck a2.Ch a2.Cg a2.Cb a2.Cj a2.Cq a2.Cp R  hR n _ hg (Az [(0, 0), (1, 1)] rfl rfl rfl (oR (oR (oR (Aj (Au (E := Ab.E) _ false) (oR (oR A6)))))) (A3 (Be (cs := [(Aa a1.Time), (Aa a1.Bc), (Ac a1.Bd), (Aa a1.End)]) (ty := 37) rfl (show Al _ 0 = _ from (by first | rfl | (simp (disch := first | decide | assumption) only [lk])))) (A3 (Be (cs := [(Aa a2.Cf), (Aa a2.Ce), (Aa a2.Ci), (Aa a2.Cn), (Aa a2.Cd), (Aa a2.Cl), (Aa a2.Cr), (Aa a2.Co), (Aa a2.Cm), (Aa a2.Ck), (Aa a2.Ch), (Aa a2.Cg), (Aa a2.Cb), (Aa a2.Cj), (Aa a2.Cq), (Aa a2.Cp)]) (ty := 25) rfl (show Al _ 1 = _ from (by first | rfl | (simp (disch := first | decide | assumption) only [lk])))) A0)))
theorem Aej {n : Nat} {a0 : List Ab} {a1 : Ab} {a2 : Ao} {t : U0} (h : g51 n a0 a1 a2 = some t) : C3 pg KK.gl 51 [(Am Ab.E a0), (AV.agg [(Aa a1.Time), (Aa a1.Bc), (Ac a1.Bd), (Aa a1.End)]), (AV.agg [(Aa a2.Cf), (Aa a2.Ce), (Aa a2.Ci), (Aa a2.Cn), (Aa a2.Cd), (Aa a2.Cl), (Aa a2.Cr), (Aa a2.Co), (Aa a2.Cm), (Aa a2.Ck), (Aa a2.Ch), (Aa a2.Cg), (Aa a2.Cb), (Aa a2.Cj), (Aa a2.Cq), (Aa a2.Cp)])] ((Ac t)) :=
  A5 (by first | rfl | simp [As, clean, Ak, En.Di]) (by first | rfl | simp [As, clean, Ak, En.Di]) (wU (Am Ab.E a0) a1.Time a1.Bc a1.Bd a1.End a2.Cf a2.Ce a2.Ci a2.Cn a2.Cd a2.Cl a2.Cr a2.Co a2.Cm a2.Ck a2.Ch a2.Cg a2.Cb a2.Cj a2.Cq a2.Cp _ (zH n a0 a1 a2 (Cu ((Ac t))) (fun r e u m h => by rw [e]; exact h) h))
theorem zX (n : Nat) (a0 : Ab) (a1_0 : Int) (a1_1 : Int) (a1_2 : Bool) (a1_3 : Int) {t : uP} (R : AV → Mem → Prop) (hR : ∀ r : uP, t = r → ∀ u m, Cu ((Ac r)) u m → R u m) : g53 n a0 a1_0 a1_1 a1_2 a1_3 = some t → F53 a0.Time a0.Bc a0.Bd a0.End (AV.B8 [(Aa a1_0), (Aa a1_1), (Ac a1_2), (Aa a1_3)] 0) R := by
  unfold g53 F53
  refine iq (AV.B8 [(Aa a1_0), (Aa a1_1), (Ac a1_2), (Aa a1_3)] 0) rfl ?_
  refine iq (Aa a1_0) rfl ?_
  refine imp Ai ?_
  exact Df hR rfl rfl
theorem Afe {n : Nat} {a0 : Ab} {a1_0 : Int} {a1_1 : Int} {a1_2 : Bool} {a1_3 : Int} {t : uP} (h : g53 n a0 a1_0 a1_1 a1_2 a1_3 = some t) : C3 pg KK.gl 53 [(AV.agg [(Aa a0.Time), (Aa a0.Bc), (Ac a0.Bd), (Aa a0.End)]), (AV.B8 [(Aa a1_0), (Aa a1_1), (Ac a1_2), (Aa a1_3)] 0)] ((Ac t)) :=
  A5 (by first | rfl | simp [As, clean, Ak, En.Di]) (by first | rfl | simp [As, clean, Ak, En.Di]) (uB a0.Time a0.Bc a0.Bd a0.End (AV.B8 [(Aa a1_0), (Aa a1_1), (Ac a1_2), (Aa a1_3)] 0) _ (zX n a0 a1_0 a1_1 a1_2 a1_3 (Cu ((Ac t))) (fun r e u m h => by rw [e]; exact h) h))
theorem j8 (n : Nat) (a0 : List Ab) (a1_0_0 : Int) (a1_0_1 : Int) (a1_0_2 : Bool) (a1_0_3 : Int) (c4 : Int) (c7 : Int) (v8 : Int) {t : (Int) ⊕ Jv} (R : AV → Mem → Prop) (N0 : St → Prop) (hR : ∀ r : Jv, t = (.inr r) → ∀ u m, Cu ((Aa r)) u m → R u m) (hN0 : ∀ y : Int, t = (.inl y) → ∀ s' : St, Bo KK 19 0 s' (Pc (Am Ab.E a0) (AV.fn 53 [(AV.B8 [(Aa a1_0_0), (Aa a1_0_1), (Ac a1_0_2), (Aa a1_0_3)] 0)]) c4 c7 y []) → N0 s') : Q9 n a0 a1_0_0 a1_0_1 a1_0_2 a1_0_3 c4 c7 v8 = some t → Sc (Am Ab.E a0) (AV.fn 53 [(AV.B8 [(Aa a1_0_0), (Aa a1_0_1), (Ac a1_0_2), (Aa a1_0_3)] 0)]) c4 c7 v8 [] R N0 := by
  unfold Q9 Sc
  refine An (fun _ => ?_) (fun _ => ?_)
  · refine Aq fun x180 h180 => ?_
    refine iq (AV.B8 [(Aa x180.Time), (Aa x180.Bc), (Ac x180.Bd), (Aa x180.End)] 0) (Bk (E := Ab.E) rfl h180) ?_
    refine iq (AV.agg [(Aa x180.Time), (Aa x180.Bc), (Ac x180.Bd), (Aa x180.End)]) rfl ?_
    refine imp Fc ?_
    iterate 2 refine imp Ai ?_
    refine imp Dk ?_
    refine imp Ai ?_
    refine Aq fun x181 h181 => ?_
    refine imp It ?_
    refine imp (dN rfl) ?_
    refine imp (Mi (Afe h181)) ?_
    refine imp Dk ?_
    refine An (fun _ => ?_) (fun _ => ?_)
    · exact Df hR rfl rfl
    · exact fun hg => hN0 _ (Option.some.inj hg).symm _ (Az [] rfl rfl rfl (Aj (Au (E := Ab.E) _ false) (Aj (I4 (Hr _) (by simp [clean, As, Ak])) (oR (oR (oR A6))))) A0)
  · exact Df hR rfl rfl
theorem lC (n : Nat) (a0 : List Ab) (a1_0_0 : Int) (a1_0_1 : Int) (a1_0_2 : Bool) (a1_0_3 : Int) (c4 : Int) (c7 : Int) {t : Jv} (R : AV → Mem → Prop) (hR : ∀ r : Jv, t = r → ∀ u m, Cu ((Aa r)) u m → R u m) (k : Nat) (x : Int) (hx : Ba (fun y : Int => Q9 n a0 a1_0_0 a1_0_1 a1_0_2 a1_0_3 c4 c7 y) k x = some t) {s : St} (hw : Bo KK 19 0 s (Pc (Am Ab.E a0) (AV.fn 53 [(AV.B8 [(Aa a1_0_0), (Aa a1_0_1), (Ac a1_0_2), (Aa a1_0_3)] 0)]) c4 c7 x [])) : Ca pg KK 19 0 (.loop Yu) s (Xb R ) :=
  xP R  (σ := Nat × (Int)) (fun z => Ba (fun y : Int => Q9 n a0 a1_0_0 a1_0_1 a1_0_2 a1_0_3 c4 c7 y) z.1 z.2 = some t) (fun z => (Am Ab.E a0)) (fun z => (AV.fn 53 [(AV.B8 [(Aa a1_0_0), (Aa a1_0_1), (Ac a1_0_2), (Aa a1_0_3)] 0)])) (fun z => c4) (fun z => c7) (fun z => z.2) (fun z => []) (fun z => z.1) (by
    rintro ⟨k, y⟩ h
    cases k with
    | zero => exact (Bp h).elim
    | succ k =>
      obtain ⟨u, h1, h2, h3⟩ := Bq h
      exact j8 n a0 a1_0_0 a1_0_1 a1_0_2 a1_0_3 c4 c7 y R  _ (fun r e => hR r (h3 _ e).symm)  (fun y' e s' hw => ⟨(k, y'), h2 _ e, Nat.lt_succ_self k, hw⟩) h1) (k, x) hx hw
theorem Abv (n : Nat) (a0 : List Ab) (a1_0_0 : Int) (a1_0_1 : Int) (a1_0_2 : Bool) (a1_0_3 : Int) {t : Jv} (R : AV → Mem → Prop) (hR : ∀ r : Jv, t = r → ∀ u m, Cu ((Aa r)) u m → R u m) : yQ n a0 a1_0_0 a1_0_1 a1_0_2 a1_0_3 = some t → F52 (Am Ab.E a0) (AV.fn 53 [(AV.B8 [(Aa a1_0_0), (Aa a1_0_1), (Ac a1_0_2), (Aa a1_0_3)] 0)]) R := by
  unfold yQ F52
  refine iq (Aa (a0.length : Int)) rfl ?_
  refine imp Ai ?_
  exact fun hg => lC n a0 a1_0_0 a1_0_1 a1_0_2 a1_0_3 (0) (a0.length : Int) R  hR n _ hg (Az [] rfl rfl rfl (Aj (Au (E := Ab.E) _ false) (Aj (I4 (Hr _) (by simp [clean, As, Ak])) (oR (oR (oR A6))))) A0)
theorem Aeb {n : Nat} {a0 : List Ab} {a1_0_0 : Int} {a1_0_1 : Int} {a1_0_2 : Bool} {a1_0_3 : Int} {t : Jv} (h : yQ n a0 a1_0_0 a1_0_1 a1_0_2 a1_0_3 = some t) : C3 pg KK.gl 52 [(Am Ab.E a0), (AV.fn 53 [(AV.B8 [(Aa a1_0_0), (Aa a1_0_1), (Ac a1_0_2), (Aa a1_0_3)] 0)])] ((Aa t)) :=
  A5 (by first | rfl | simp [As, clean, Ak, En.Di]) (by first | rfl | simp [As, clean, Ak, En.Di]) (cN (Am Ab.E a0) (AV.fn 53 [(AV.B8 [(Aa a1_0_0), (Aa a1_0_1), (Ac a1_0_2), (Aa a1_0_3)] 0)]) _ (Abv n a0 a1_0_0 a1_0_1 a1_0_2 a1_0_3 (Cu ((Aa t))) (fun r e u m h => by rw [e]; exact h) h))
end Go.Proofs.YtbfabclpcamlnaaGreatDoor
