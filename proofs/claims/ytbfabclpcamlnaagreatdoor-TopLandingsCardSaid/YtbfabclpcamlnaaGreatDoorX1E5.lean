/- A part. -/
import Derived.Test.YtbfabclpcamlnaaGreatDoorX1E4
import Derived.Test.YtbfabclpcamlnaaGreatDoorBeH
import Derived.Test.YtbfabclpcamlnaaGreatDoorShH
set_option linter.unusedVariables false
set_option linter.unusedSimpArgs false
set_option maxRecDepth 100000
set_option maxHeartbeats 4000000
namespace Go.Proofs.YtbfabclpcamlnaaGreatDoor
theorem vN (n : Nat) (a0 : List Ad) (x124 : Int) (a3 : List Av) (c8 : Bool) (c9 : List Int) (c10 : List Int) (c68 : Int) (k0_0 : Int) (k0_1 : Int) (k0_2 : Int) (k0_3 : Int) (k0_4 : Int) (k0_5 : Int) (k0_6 : Int) (k0_7 : Int) (k0_8 : Int) (k0_9 : Int) (k0_10 : Int) (k0_11 : Int) (k0_12 : Int) (k0_13 : Int) (k0_14 : Int) (k0_15 : Int) (v69 : Int) (L90000 : List Ab) {t : (Int × List Ab) ⊕ tV} (R : AV → Mem → Prop) (N0 : St → Prop) (hR : ∀ r : tV, t = (.inr r) → ∀ u m, Cu ((Ac r)) u m → R u m) (hN0 : ∀ y : Int × List Ab, t = (.inl y) → ∀ s' : St, Bo KK 154 0 s' (iU (Am Ad.E a0) x124 (Am Av.E a3) c8 (Am A2 c9) (Am A2 c10) (B5 Ab.E 90000 y.2) (Am A2 c9) c68 y.1 [(90000, Cs Ab.E 37 y.2), (0, some ⟨[(Aa k0_0), (Aa k0_1), (Aa k0_2), (Aa k0_3), (Aa k0_4), (Aa k0_5), (Aa k0_6), (Aa k0_7), (Aa k0_8), (Aa k0_9), (Aa k0_10), (Aa k0_11), (Aa k0_12), (Aa k0_13), (Aa k0_14), (Aa k0_15)], 25⟩)]) → N0 s') : jE n a0 x124 a3 c8 c9 c10 c68 k0_0 k0_1 k0_2 k0_3 k0_4 k0_5 k0_6 k0_7 k0_8 k0_9 k0_10 k0_11 k0_12 k0_13 k0_14 k0_15 v69 L90000 = some t → vI (Am Ad.E a0) x124 (Am Av.E a3) c8 (Am A2 c9) (Am A2 c10) (B5 Ab.E 90000 L90000) (Am A2 c9) c68 v69 [(90000, Cs Ab.E 37 L90000), (0, some ⟨[(Aa k0_0), (Aa k0_1), (Aa k0_2), (Aa k0_3), (Aa k0_4), (Aa k0_5), (Aa k0_6), (Aa k0_7), (Aa k0_8), (Aa k0_9), (Aa k0_10), (Aa k0_11), (Aa k0_12), (Aa k0_13), (Aa k0_14), (Aa k0_15)], 25⟩)] R N0 := by
  unfold jE vI
  refine An (fun _ => ?_) (fun _ => ?_)
  · refine Aq fun x126 h126 => ?_
    refine iq (AV.B8 [(Aa x126)] 0) (Bk (E := A2) rfl h126) ?_
    refine iq (Aa x126) rfl ?_
    refine imp Ai ?_
    refine An (fun _ => ?_) (fun _ => ?_)
    · exact Df hR rfl rfl
    · refine iq (Aa (a0.length : Int)) rfl ?_
      refine imp Ai ?_
      refine An (fun _ => ?_) (fun _ => ?_)
      · exact Df hR rfl rfl
      · refine Aq fun x127 h127 => ?_
        refine imp (De (show _ = some ((AV.B8 [(Aa x127)] 0), []) from (Bk (E := A2) rfl h127))) ?_
        refine imp (De (show _ = some ((Aa x127), []) from rfl)) ?_
        refine imp Ai ?_
        refine Aq fun x128 h128 => ?_
        refine imp (De (show _ = some ((AV.B8 [(C6 x128.Call), (Aa x128.Bc), (Aa x128.Time), (Aa x128.Bs)] 0), []) from (Bk (E := Ad.E) rfl h128))) ?_
        refine imp (De (show _ = some ((AV.B8 [(C6 x128.Call), (Aa x128.Bc), (Aa x128.Time), (Aa x128.Bs)] 1), []) from rfl)) ?_
        refine imp (De (show _ = some ((Aa x128.Bc), []) from rfl)) ?_
        refine imp Ai ?_
        refine imp (De (show _ = some ((AV.agg [(Aa x127), (Aa x128.Bc), (Ac false), (Aa (0))]), []) from rfl)) ?_
        refine imp (De (show _ = some ((Eu Ab.E 100025 ([(⟨x127, x128.Bc, false, (0)⟩ : Ab)] : List Ab)), [(100025, some ⟨Ay Ab.E ([(⟨x127, x128.Bc, false, (0)⟩ : Ab)] : List Ab), 37⟩)]) from rfl)) ?_
        refine Aq fun x130 h130 => ?_
        refine imp (De (show _ = some ((B5 Ab.E 100026 (L90000 ++ ([(⟨x127, x128.Bc, false, (0)⟩ : Ab)] : List Ab))), (Ip Ab.E 100026 90000 37 L90000 ([(⟨x127, x128.Bc, false, (0)⟩ : Ab)] : List Ab))) from (Ib (E := Ab.E) (l' := L90000) (xs := ([(⟨x127, x128.Bc, false, (0)⟩ : Ab)] : List Ab)) rfl rfl (Ez (E := Ab.E) (ty := 37) rfl rfl (by first | rfl | (rw [K9 (by first | rfl | simp [Oy] | simp [Ax])]; first | rfl | (simp (disch := first | decide | assumption) only [lk])))) (by first | assumption | simp) rfl (fun hne => gY hne rfl (by first | rfl | (simp (disch := first | decide | assumption) only [lk]))) h130))) ?_
        refine imp (Ml (by rcases (L90000) with _ | ⟨_, _⟩ <;> kernel_rfl)) ?_
        exact fun hg => hN0 _ (Option.some.inj hg).symm _ (Az [(90000, 100026), (0, 0)] rfl rfl rfl (Aj (Au (E := Ad.E) _ false) (oR (Aj (Au (E := Av.E) _ false) (oR (oR (Aj (Au (E := A2) _ false) (Aj (Au (E := A2) _ false) (Aj (Dz (E := Ab.E) (id := 100026) (l' := (L90000 ++ ([(⟨x127, x128.Bc, false, (0)⟩ : Ab)] : List Ab))) rfl rfl) (Aj (Au (E := A2) _ false) (oR (oR A6))))))))))) (A3 (Dy (E := Ab.E) (ty := 37) (l' := (L90000 ++ ([(⟨x127, x128.Bc, false, (0)⟩ : Ab)] : List Ab))) rfl (show Al _ 100026 = _ from (by first | rfl | (simp (disch := first | decide | assumption) only [lk])))) (A3 (Be (cs := [(Aa k0_0), (Aa k0_1), (Aa k0_2), (Aa k0_3), (Aa k0_4), (Aa k0_5), (Aa k0_6), (Aa k0_7), (Aa k0_8), (Aa k0_9), (Aa k0_10), (Aa k0_11), (Aa k0_12), (Aa k0_13), (Aa k0_14), (Aa k0_15)]) (ty := 25) rfl (show Al _ 0 = _ from (by first | rfl | (simp (disch := first | decide | assumption) only [lk])))) A0)))
  · refine iq (AV.agg [(Aa (0)), (Aa (0))]) rfl ?_
    refine imp (Dl (show _ = some ((Eu Ah.E 100002 ([(⟨(0), (0)⟩ : Ah)] : List Ah)), [(100002, some ⟨Ay Ah.E ([(⟨(0), (0)⟩ : Ah)] : List Ah), 39⟩)]) from rfl)) ?_
    refine iq (AV.agg [(Aa k0_0), (Aa k0_1), (Aa k0_2), (Aa k0_3), (Aa k0_4), (Aa k0_5), (Aa k0_6), (Aa k0_7), (Aa k0_8), (Aa k0_9), (Aa k0_10), (Aa k0_11), (Aa k0_12), (Aa k0_13), (Aa k0_14), (Aa k0_15)]) (Ft (b := ⟨[(Aa k0_0), (Aa k0_1), (Aa k0_2), (Aa k0_3), (Aa k0_4), (Aa k0_5), (Aa k0_6), (Aa k0_7), (Aa k0_8), (Aa k0_9), (Aa k0_10), (Aa k0_11), (Aa k0_12), (Aa k0_13), (Aa k0_14), (Aa k0_15)], 25⟩) (by first | rfl | (simp (disch := first | decide | assumption) only [lk])) rfl) ?_
    refine imp P7 ?_
    iterate 16 refine imp Ai ?_
    refine Aq fun x160 h160 => ?_
    refine imp (Er (Ej (Aw (Im (E := Ab.E) (ty := 37) (l' := L90000) _ Ab.nf rfl (by first | rfl | (simp (disch := first | decide | assumption) only [lk]))) (Aw (Rp (E := Ah.E) (ty := 39) (l' := ([(⟨(0), (0)⟩ : Ah)] : List Ah)) _ Ah.nf rfl (by first | rfl | (simp (disch := first | decide | assumption) only [lk]))) (Aw (O4 _ (Aw (Bw _ _) (Aw (Bw _ _) (Aw (Bw _ _) (Aw (Bw _ _) (Aw (Bw _ _) (Aw (Bw _ _) (Aw (Bw _ _) (Aw (Bw _ _) (Aw (Bw _ _) (Aw (Bw _ _) (Aw (Bw _ _) (Aw (Bw _ _) (Aw (Bw _ _) (Aw (Bw _ _) (Aw (Bw _ _) (Aw (Bw _ _) Dc))))))))))))))))) Dc))) (sg7 h160) rfl)) ?_
    refine imp Uc ?_
    iterate 3 refine imp Ai ?_
    refine Aq fun x168 h168 => ?_
    refine imp (A1 (sg8 h168)) ?_
    refine imp E5 ?_
    iterate 2 refine imp Ai ?_
    refine iq (AV.agg [(Aa k0_0), (Aa k0_1), (Aa k0_2), (Aa k0_3), (Aa k0_4), (Aa k0_5), (Aa k0_6), (Aa k0_7), (Aa k0_8), (Aa k0_9), (Aa k0_10), (Aa k0_11), (Aa k0_12), (Aa k0_13), (Aa k0_14), (Aa k0_15)]) (Ft (b := ⟨[(Aa k0_0), (Aa k0_1), (Aa k0_2), (Aa k0_3), (Aa k0_4), (Aa k0_5), (Aa k0_6), (Aa k0_7), (Aa k0_8), (Aa k0_9), (Aa k0_10), (Aa k0_11), (Aa k0_12), (Aa k0_13), (Aa k0_14), (Aa k0_15)], 25⟩) (by first | rfl | (simp (disch := first | decide | assumption) only [lk])) rfl) ?_
    refine imp P7 ?_
    iterate 16 refine imp Ai ?_
    refine Aq fun x188 h188 => ?_
    refine imp (Gf (show D2 _ _ _ _ _ _ (AV.tup [(B5 Ab.E 100153 x188.1), (Aa x188.2)]) [(100153, Cs Ab.E 37 x188.1)] from Afx h188 (Aw (Im (E := Ab.E) (ty := 37) (l' := L90000) _ Ab.nf rfl (by first | rfl | (simp (disch := first | decide | assumption) only [lk]))) (Aw (Rp (E := Ah.E) (ty := 39) (l' := ([(⟨(0), (0)⟩ : Ah)] : List Ah)) _ Ah.nf rfl (by first | rfl | (simp (disch := first | decide | assumption) only [lk]))) (Aw (O4 _ (Aw (Bw _ _) (Aw (Bw _ _) (Aw (Bw _ _) (Aw (Bw _ _) (Aw (Bw _ _) (Aw (Bw _ _) (Aw (Bw _ _) (Aw (Bw _ _) (Aw (Bw _ _) (Aw (Bw _ _) (Aw (Bw _ _) (Aw (Bw _ _) (Aw (Bw _ _) (Aw (Bw _ _) (Aw (Bw _ _) (Aw (Bw _ _) Dc))))))))))))))))) (Aw (aA (E := Av.E) _ _ false) Dc)))))) ?_
    refine imp E5 ?_
    refine imp Ai ?_
    refine An (fun _ => ?_) (fun _ => ?_)
    · exact Df hR rfl rfl
    · refine An (fun _ => ?_) (fun _ => ?_)
      · exact Df hR rfl rfl
      · refine An (fun _ => ?_) (fun _ => ?_)
        · exact Df hR rfl rfl
        · refine An (fun _ => ?_) (fun _ => ?_)
          · refine imp (Es (show _ = some ((Aa (x188.1.length : Int)), []) from Ji)) ?_
            refine imp Ai ?_
            exact Df hR rfl rfl
          · refine iq (AV.agg [(Aa k0_0), (Aa k0_1), (Aa k0_2), (Aa k0_3), (Aa k0_4), (Aa k0_5), (Aa k0_6), (Aa k0_7), (Aa k0_8), (Aa k0_9), (Aa k0_10), (Aa k0_11), (Aa k0_12), (Aa k0_13), (Aa k0_14), (Aa k0_15)]) (Ft (b := ⟨[(Aa k0_0), (Aa k0_1), (Aa k0_2), (Aa k0_3), (Aa k0_4), (Aa k0_5), (Aa k0_6), (Aa k0_7), (Aa k0_8), (Aa k0_9), (Aa k0_10), (Aa k0_11), (Aa k0_12), (Aa k0_13), (Aa k0_14), (Aa k0_15)], 25⟩) (by first | rfl | (simp (disch := first | decide | assumption) only [lk])) rfl) ?_
            refine imp P7 ?_
            iterate 16 refine imp Ai ?_
            refine Aq fun x202 h202 => ?_
            refine imp (Er (Ej (Aw (Im (E := Ab.E) (ty := 37) (l' := x188.1) _ Ab.nf rfl (by first | rfl | (simp (disch := first | decide | assumption) only [lk]))) (Aw (Rp (E := Ah.E) (ty := 39) (l' := ([(⟨(0), (0)⟩ : Ah)] : List Ah)) _ Ah.nf rfl (by first | rfl | (simp (disch := first | decide | assumption) only [lk]))) (Aw (O4 _ (Aw (Bw _ _) (Aw (Bw _ _) (Aw (Bw _ _) (Aw (Bw _ _) (Aw (Bw _ _) (Aw (Bw _ _) (Aw (Bw _ _) (Aw (Bw _ _) (Aw (Bw _ _) (Aw (Bw _ _) (Aw (Bw _ _) (Aw (Bw _ _) (Aw (Bw _ _) (Aw (Bw _ _) (Aw (Bw _ _) (Aw (Bw _ _) Dc))))))))))))))))) Dc))) (sg7 h202) rfl)) ?_
            refine imp Uc ?_
            iterate 3 refine imp Ai ?_
            refine Aq fun x203 h203 => ?_
            refine imp (Gf (show D2 _ _ _ _ _ _ (B5 Ab.E 100310 x188.1) [(100310, Cs Ab.E 37 x188.1)] from lZ h203 (Aw (Im (E := Ab.E) (ty := 37) (l' := x188.1) _ Ab.nf rfl (by first | rfl | (simp (disch := first | decide | assumption) only [lk]))) Dc))) ?_
            refine Abb (fun e204 => ?_) (fun _ => ?_)
            · refine imp (Gf (show D2 _ _ _ _ _ _ (Am Ab.E []) [] from iR rfl (List.isEmpty_iff.1 e204))) ?_
              refine An (fun _ => ?_) (fun _ => ?_)
              · refine Aq fun x207 h207 => ?_
                refine imp (Er (Ej (Aw (aA (E := Ab.E) _ _ false) (Aw (Im (E := Ab.E) (ty := 37) (l' := L90000) _ Ab.nf rfl (by first | rfl | (simp (disch := first | decide | assumption) only [lk]))) Dc)) (Acl h207) rfl)) ?_
                refine imp Dk ?_
                exact Df hR rfl rfl
              · exact Df hR rfl rfl
            · refine Aq fun x217 h217 => ?_
              refine Aq fun x218 h218 => ?_
              refine imp (Gf (show D2 _ _ _ _ _ _ (Vs Ab.E 100374 x218) [(100374, some ⟨Ay Ab.E x218, 37⟩), (100310, none)] from Aey (Qq h217) rfl (by first | rfl | (simp (disch := first | decide | assumption) only [lk])) h218 (Aw (W0 _ _ Dc) Dc))) ?_
              refine An (fun _ => ?_) (fun _ => ?_)
              · refine Aq fun x219 h219 => ?_
                refine imp (Er (Ej (Aw (Adh (E := Ab.E) (ty := 37) (l' := x218) _ Ab.nf rfl (by first | rfl | (simp (disch := first | decide | assumption) only [lk]))) (Aw (Im (E := Ab.E) (ty := 37) (l' := L90000) _ Ab.nf rfl (by first | rfl | (simp (disch := first | decide | assumption) only [lk]))) Dc)) (Acl h219) rfl)) ?_
                refine imp Dk ?_
                exact Df hR rfl rfl
              · exact Df hR rfl rfl
theorem rW (n : Nat) (a0 : List Ad) (x124 : Int) (a3 : List Av) (c8 : Bool) (c9 : List Int) (c10 : List Int) (c68 : Int) (k0_0 : Int) (k0_1 : Int) (k0_2 : Int) (k0_3 : Int) (k0_4 : Int) (k0_5 : Int) (k0_6 : Int) (k0_7 : Int) (k0_8 : Int) (k0_9 : Int) (k0_10 : Int) (k0_11 : Int) (k0_12 : Int) (k0_13 : Int) (k0_14 : Int) (k0_15 : Int) {t : tV} (R : AV → Mem → Prop) (hR : ∀ r : tV, t = r → ∀ u m, Cu ((Ac r)) u m → R u m) (k : Nat) (x : Int × List Ab) (hx : Ba (fun y : Int × List Ab => jE n a0 x124 a3 c8 c9 c10 c68 k0_0 k0_1 k0_2 k0_3 k0_4 k0_5 k0_6 k0_7 k0_8 k0_9 k0_10 k0_11 k0_12 k0_13 k0_14 k0_15 y.1 y.2) k x = some t) {s : St} (hw : Bo KK 154 0 s (iU (Am Ad.E a0) x124 (Am Av.E a3) c8 (Am A2 c9) (Am A2 c10) (B5 Ab.E 90000 x.2) (Am A2 c9) c68 x.1 [(90000, Cs Ab.E 37 x.2), (0, some ⟨[(Aa k0_0), (Aa k0_1), (Aa k0_2), (Aa k0_3), (Aa k0_4), (Aa k0_5), (Aa k0_6), (Aa k0_7), (Aa k0_8), (Aa k0_9), (Aa k0_10), (Aa k0_11), (Aa k0_12), (Aa k0_13), (Aa k0_14), (Aa k0_15)], 25⟩)])) : Ca pg KK 154 0 (.loop Cb) s (xD R ) :=
  Aez R  (σ := Nat × (Int × List Ab)) (fun z => Ba (fun y : Int × List Ab => jE n a0 x124 a3 c8 c9 c10 c68 k0_0 k0_1 k0_2 k0_3 k0_4 k0_5 k0_6 k0_7 k0_8 k0_9 k0_10 k0_11 k0_12 k0_13 k0_14 k0_15 y.1 y.2) z.1 z.2 = some t) (fun z => (Am Ad.E a0)) (fun z => x124) (fun z => (Am Av.E a3)) (fun z => c8) (fun z => (Am A2 c9)) (fun z => (Am A2 c10)) (fun z => (B5 Ab.E 90000 z.2.2)) (fun z => (Am A2 c9)) (fun z => c68) (fun z => z.2.1) (fun z => [(90000, Cs Ab.E 37 z.2.2), (0, some ⟨[(Aa k0_0), (Aa k0_1), (Aa k0_2), (Aa k0_3), (Aa k0_4), (Aa k0_5), (Aa k0_6), (Aa k0_7), (Aa k0_8), (Aa k0_9), (Aa k0_10), (Aa k0_11), (Aa k0_12), (Aa k0_13), (Aa k0_14), (Aa k0_15)], 25⟩)]) (fun z => z.1) (by
    rintro ⟨k, y⟩ h
    cases k with
    | zero => exact (Bp h).elim
    | succ k =>
      obtain ⟨u, h1, h2, h3⟩ := Bq h
      exact vN n a0 x124 a3 c8 c9 c10 c68 k0_0 k0_1 k0_2 k0_3 k0_4 k0_5 k0_6 k0_7 k0_8 k0_9 k0_10 k0_11 k0_12 k0_13 k0_14 k0_15 y.1 y.2 R  _ (fun r e => hR r (h3 _ e).symm)  (fun y' e s' hw => ⟨(k, y'), h2 _ e, Nat.lt_succ_self k, hw⟩) h1) (k, x) hx hw
theorem Ab6 (n : Nat) (a0 : List Ad) (a1 : Ao) (a2 : Int) (a3 : List Av) {t : tV} (R : AV → Mem → Prop) (hR : ∀ r : tV, t = r → ∀ u m, Cu ((Ac r)) u m → R u m) : g3 n a0 a1 a2 a3 = some t → F3 (Am Ad.E a0) a1.Cf a1.Ce a1.Ci a1.Cn a1.Cd a1.Cl a1.Cr a1.Co a1.Cm a1.Ck a1.Ch a1.Cg a1.Cb a1.Cj a1.Cq a1.Cp a2 (Am Av.E a3) R := by
  unfold g3 F3
  refine Aq fun x122 h122 => ?_
  refine imp (A1 (sg4 h122)) ?_
  refine imp Dk ?_
  refine An (fun _ => ?_) (fun _ => ?_)
  · exact Df hR rfl rfl
  · refine iq (Aa (a0.length : Int)) rfl ?_
    refine imp Ai ?_
    refine An (fun _ => ?_) (fun _ => ?_)
    · exact Df hR rfl rfl
    · refine iq (Aa (a3.length : Int)) rfl ?_
      refine imp Ai ?_
      refine An (fun _ => ?_) (fun _ => ?_)
      · exact Df hR rfl rfl
      · refine Aq fun x124 h124 => ?_
        refine imp (A1 (sg5 h124)) ?_
        refine imp Ai ?_
        refine Aq fun x125 h125 => ?_
        refine imp (Gf (show D2 _ _ _ _ _ _ (AV.tup [(Am A2 x125.1), (B5 A2 144 x125.2.1), (Aa x125.2.2)]) [(144, Cs A2 3 x125.2.1)] from Adk h125)) ?_
        refine imp Uc ?_
        refine imp Ai ?_
        refine An (fun _ => ?_) (fun _ => ?_)
        · refine iq (Aa (x125.1.length : Int)) rfl ?_
          refine imp Ai ?_
          refine imp (Es (show _ = some ((Aa (x125.2.1.length : Int)), []) from Ji)) ?_
          refine imp Ai ?_
          exact Df hR rfl rfl
        · refine iq (Aa (x125.1.length : Int)) rfl ?_
          refine imp Ai ?_
          refine iq (Aa (a0.length : Int)) rfl ?_
          refine imp Ai ?_
          refine An (fun _ => ?_) (fun _ => ?_)
          · exact Df hR rfl rfl
          · refine imp (Es (show _ = some ((Aa (x125.2.1.length : Int)), []) from Ji)) ?_
            refine imp Ai ?_
            refine iq (Aa (a0.length : Int)) rfl ?_
            refine imp Ai ?_
            refine An (fun _ => ?_) (fun _ => ?_)
            · exact Df hR rfl rfl
            · refine iq (Aa (x125.1.length : Int)) rfl ?_
              refine imp Ai ?_
              exact fun hg => rW n a0 x124 a3 false x125.1 x125.2.1 (x125.1.length : Int) a1.Cf a1.Ce a1.Ci a1.Cn a1.Cd a1.Cl a1.Cr a1.Co a1.Cm a1.Ck a1.Ch a1.Cg a1.Cb a1.Cj a1.Cq a1.Cp R  hR n _ hg (Az [(90000, 89500), (0, 0)] rfl rfl rfl (Aj (Au (E := Ad.E) _ false) (oR (Aj (Au (E := Av.E) _ false) (oR (oR (Aj (Au (E := A2) _ false) (Aj (X6 (E := A2) (ty := 3) (l' := x125.2.1) rfl (by first | rfl | (simp (disch := first | decide | assumption) only [lk])) rfl) (Aj F2 (Aj (Au (E := A2) _ false) (oR (oR A6))))))))))) (A3 M6 (A3 (Be (cs := [(Aa a1.Cf), (Aa a1.Ce), (Aa a1.Ci), (Aa a1.Cn), (Aa a1.Cd), (Aa a1.Cl), (Aa a1.Cr), (Aa a1.Co), (Aa a1.Cm), (Aa a1.Ck), (Aa a1.Ch), (Aa a1.Cg), (Aa a1.Cb), (Aa a1.Cj), (Aa a1.Cq), (Aa a1.Cp)]) (ty := 25) rfl (show Al _ 0 = _ from (by first | rfl | (simp (disch := first | decide | assumption) only [lk])))) A0)))
theorem sg3 {n : Nat} {a0 : List Ad} {a1 : Ao} {a2 : Int} {a3 : List Av} {t : tV} (h : g3 n a0 a1 a2 a3 = some t) : C3 pg KK.gl 3 [(Am Ad.E a0), (AV.agg [(Aa a1.Cf), (Aa a1.Ce), (Aa a1.Ci), (Aa a1.Cn), (Aa a1.Cd), (Aa a1.Cl), (Aa a1.Cr), (Aa a1.Co), (Aa a1.Cm), (Aa a1.Ck), (Aa a1.Ch), (Aa a1.Cg), (Aa a1.Cb), (Aa a1.Cj), (Aa a1.Cq), (Aa a1.Cp)]), (Aa a2), (Am Av.E a3)] ((Ac t)) :=
  A5 (by first | rfl | simp [As, clean, Ak, En.Di]) (by first | rfl | simp [As, clean, Ak, En.Di]) (Aba (Am Ad.E a0) a1.Cf a1.Ce a1.Ci a1.Cn a1.Cd a1.Cl a1.Cr a1.Co a1.Cm a1.Ck a1.Ch a1.Cg a1.Cb a1.Cj a1.Cq a1.Cp a2 (Am Av.E a3) _ (Ab6 n a0 a1 a2 a3 (Cu ((Ac t))) (fun r e u m h => by rw [e]; exact h) h))
end Go.Proofs.YtbfabclpcamlnaaGreatDoor
