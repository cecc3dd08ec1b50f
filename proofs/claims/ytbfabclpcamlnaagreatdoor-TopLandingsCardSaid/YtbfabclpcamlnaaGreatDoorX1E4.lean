/- A part. -/
import Derived.Test.YtbfabclpcamlnaaGreatDoorX1E3
set_option linter.unusedVariables false
set_option linter.unusedSimpArgs false
set_option maxRecDepth 100000
set_option maxHeartbeats 4000000
namespace Go.Proofs.YtbfabclpcamlnaaGreatDoor
theorem Zo (n : Nat) (a1 : List Ah) (c9 : Int) (a3 : List Av) (c41 : Int) (v42 : Int) (k0_0 : Int) (k0_1 : Int) (k0_2 : Int) (k0_3 : Int) (k0_4 : Int) (k0_5 : Int) (k0_6 : Int) (k0_7 : Int) (k0_8 : Int) (k0_9 : Int) (k0_10 : Int) (k0_11 : Int) (k0_12 : Int) (k0_13 : Int) (k0_14 : Int) (k0_15 : Int) (L90000 : List Ab) (bw100145_0 : Int) (bw100145_1 : Int) (bw100145_2 : Bool) (bw100145_3 : Int) {t : (List Ab × Int × Int × Bool × Int) ⊕ ((Int × List Ab) ⊕ fC)} (R : AV → Mem → Prop) (N0 : St → Prop) (N1 : St → Prop) (hR : ∀ r : fC, t = (.inr (.inr r)) → ∀ u m, Jt Ab.E 37 r.1 [Value.int .i64 r.2] u m → R u m) (hN0 : ∀ y : Int × List Ab, t = (.inr (.inl y)) → ∀ s' : St, Bo KK 100 0 s' (Yw (Am Ah.E a1) AV.Cc c9 (B5 Ab.E 90000 y.2) (Am Av.E a3) c41 y.1 [(90000, Cs Ab.E 37 y.2), (0, some ⟨[(Aa k0_0), (Aa k0_1), (Aa k0_2), (Aa k0_3), (Aa k0_4), (Aa k0_5), (Aa k0_6), (Aa k0_7), (Aa k0_8), (Aa k0_9), (Aa k0_10), (Aa k0_11), (Aa k0_12), (Aa k0_13), (Aa k0_14), (Aa k0_15)], 25⟩)]) → N0 s') (hN1 : ∀ y : List Ab × Int × Int × Bool × Int, t = (.inl y) → ∀ s' : St, Bo KK 100 0 s' (Ot (Am Ah.E a1) AV.Cc c9 (B5 Ab.E 90000 y.1) (Am Av.E a3) c41 v42 [(90000, Cs Ab.E 37 y.1), (0, some ⟨[(Aa k0_0), (Aa k0_1), (Aa k0_2), (Aa k0_3), (Aa k0_4), (Aa k0_5), (Aa k0_6), (Aa k0_7), (Aa k0_8), (Aa k0_9), (Aa k0_10), (Aa k0_11), (Aa k0_12), (Aa k0_13), (Aa k0_14), (Aa k0_15)], 25⟩), (100145, some ⟨[(Aa y.2.1), (Aa y.2.2.1), (Ac y.2.2.2.1), (Aa y.2.2.2.2)], 37⟩)]) → N1 s') : Jr n a1 c9 a3 c41 v42 k0_0 k0_1 k0_2 k0_3 k0_4 k0_5 k0_6 k0_7 k0_8 k0_9 k0_10 k0_11 k0_12 k0_13 k0_14 k0_15 L90000 bw100145_0 bw100145_1 bw100145_2 bw100145_3 = some t → Vo (Am Ah.E a1) AV.Cc c9 (B5 Ab.E 90000 L90000) (Am Av.E a3) c41 v42 [(90000, Cs Ab.E 37 L90000), (0, some ⟨[(Aa k0_0), (Aa k0_1), (Aa k0_2), (Aa k0_3), (Aa k0_4), (Aa k0_5), (Aa k0_6), (Aa k0_7), (Aa k0_8), (Aa k0_9), (Aa k0_10), (Aa k0_11), (Aa k0_12), (Aa k0_13), (Aa k0_14), (Aa k0_15)], 25⟩), (100145, some ⟨[(Aa bw100145_0), (Aa bw100145_1), (Ac bw100145_2), (Aa bw100145_3)], 37⟩)] R N0 N1 := by
  unfold Jr Vo
  refine iq (Aa bw100145_0) (Ec (b := ⟨[(Aa bw100145_0), (Aa bw100145_1), (Ac bw100145_2), (Aa bw100145_3)], 37⟩) (by first | rfl | (simp (disch := first | decide | assumption) only [lk])) rfl) ?_
  refine imp Ai ?_
  refine An (fun _ => ?_) (fun _ => ?_)
  · refine iq (Aa bw100145_0) (Ec (b := ⟨[(Aa bw100145_0), (Aa bw100145_1), (Ac bw100145_2), (Aa bw100145_3)], 37⟩) (by first | rfl | (simp (disch := first | decide | assumption) only [lk])) rfl) ?_
    refine imp Ai ?_
    refine Aq fun x194 h194 => ?_
    refine imp (A1 (Aco h194)) ?_
    refine imp E5 ?_
    refine imp Ai ?_
    refine imp Dk ?_
    refine An (fun _ => ?_) (fun _ => ?_)
    · refine iq (AV.agg [(Aa bw100145_0), (Aa bw100145_1), (Ac bw100145_2), (Aa bw100145_3)]) (Ft (b := ⟨[(Aa bw100145_0), (Aa bw100145_1), (Ac bw100145_2), (Aa bw100145_3)], 37⟩) (by first | rfl | (simp (disch := first | decide | assumption) only [lk])) rfl) ?_
      refine imp Fc ?_
      iterate 2 refine imp Ai ?_
      refine imp Dk ?_
      refine imp Ai ?_
      refine iq (AV.agg [(Aa k0_0), (Aa k0_1), (Aa k0_2), (Aa k0_3), (Aa k0_4), (Aa k0_5), (Aa k0_6), (Aa k0_7), (Aa k0_8), (Aa k0_9), (Aa k0_10), (Aa k0_11), (Aa k0_12), (Aa k0_13), (Aa k0_14), (Aa k0_15)]) (Ft (b := ⟨[(Aa k0_0), (Aa k0_1), (Aa k0_2), (Aa k0_3), (Aa k0_4), (Aa k0_5), (Aa k0_6), (Aa k0_7), (Aa k0_8), (Aa k0_9), (Aa k0_10), (Aa k0_11), (Aa k0_12), (Aa k0_13), (Aa k0_14), (Aa k0_15)], 25⟩) (by first | rfl | (simp (disch := first | decide | assumption) only [lk])) rfl) ?_
      refine imp P7 ?_
      iterate 16 refine imp Ai ?_
      refine Aq fun x195 h195 => ?_
      refine imp (Er (Ej (Aw (Im (E := Ab.E) (ty := 37) (l' := L90000) _ Ab.nf rfl (by first | rfl | (simp (disch := first | decide | assumption) only [lk]))) (Aw (O4 _ (Aw (Bw _ _) (Aw (Bw _ _) (Aw (Bw _ _) (Aw (Bw _ _) Dc))))) (Aw (O4 _ (Aw (Bw _ _) (Aw (Bw _ _) (Aw (Bw _ _) (Aw (Bw _ _) (Aw (Bw _ _) (Aw (Bw _ _) (Aw (Bw _ _) (Aw (Bw _ _) (Aw (Bw _ _) (Aw (Bw _ _) (Aw (Bw _ _) (Aw (Bw _ _) (Aw (Bw _ _) (Aw (Bw _ _) (Aw (Bw _ _) (Aw (Bw _ _) Dc))))))))))))))))) Dc))) (Aej h195) rfl)) ?_
      refine imp Dk ?_
      refine An (fun _ => ?_) (fun _ => ?_)
      · refine imp (Kj (by kernel_rfl) (by kernel_rfl) rfl (cs := [(Aa bw100145_0), (Aa bw100145_1), (Ac bw100145_2), (Aa bw100145_3)]) (cs' := [(Aa bw100145_0), (Aa bw100145_1), (Ac bw100145_2), (Aa x194.1)]) (ty := 37) (by first | rfl | (simp (disch := first | decide | assumption) only [lk])) rfl rfl) ?_
        refine iq (Aa bw100145_0) (Ec (b := ⟨[(Aa bw100145_0), (Aa bw100145_1), (Ac bw100145_2), (Aa x194.1)], 37⟩) (by first | rfl | (simp (disch := first | decide | assumption) only [lk])) rfl) ?_
        refine imp Ai ?_
        refine An (fun _ => ?_) (fun _ => ?_)
        · exact fun hg => hR _ (Option.some.inj hg).symm _ _ ⟨_, rfl, Ep⟩
        · refine Aq fun x196 h196 => ?_
          refine imp (Er (Ej (Aw (Im (E := Ab.E) (ty := 37) (l' := L90000) _ Ab.nf rfl (by first | rfl | (simp (disch := first | decide | assumption) only [lk]))) (Aw (W0 _ _ (Aw (bA _ (ty := 37) (us := [(Aa bw100145_0), (Aa bw100145_1), (Ac bw100145_2), (Aa x194.1)]) (by first | rfl | (simp (disch := first | decide | assumption) only [lk])) (Aw (Bw _ _) (Aw (Bw _ _) (Aw (Bw _ _) (Aw (Bw _ _) Dc))))) Dc)) Dc)) (Aeb h196) rfl)) ?_
          refine imp Ai ?_
          refine An (fun _ => ?_) (fun _ => ?_)
          · refine imp (Es (show _ = some ((Aa (L90000.length : Int)), []) from Ji)) ?_
            refine imp Ai ?_
            refine iq (AV.agg [(Aa bw100145_0), (Aa bw100145_1), (Ac bw100145_2), (Aa x194.1)]) (Ft (b := ⟨[(Aa bw100145_0), (Aa bw100145_1), (Ac bw100145_2), (Aa x194.1)], 37⟩) (by first | rfl | (simp (disch := first | decide | assumption) only [lk])) rfl) ?_
            refine imp Fc ?_
            iterate 2 refine imp Ai ?_
            refine imp Dk ?_
            refine imp Ai ?_
            refine imp (Dl (show _ = some ((Eu Ab.E 200226 ([(⟨bw100145_0, bw100145_1, bw100145_2, x194.1⟩ : Ab)] : List Ab)), [(200226, some ⟨Ay Ab.E ([(⟨bw100145_0, bw100145_1, bw100145_2, x194.1⟩ : Ab)] : List Ab), 37⟩)]) from rfl)) ?_
            refine Aq fun x197 h197 => ?_
            refine imp (Gf (show D2 _ _ _ _ _ _ (B5 Ab.E 200227 x197) [(200227, Cs Ab.E 37 x197), (200226, none), (90000, none)] from e8 rfl (by first | rfl | (simp (disch := first | decide | assumption) only [lk])) rfl (by first | rfl | (simp (disch := first | decide | assumption) only [lk])) (by decide) h197)) ?_
            exact fun hg => hN0 _ (Option.some.inj hg).symm _ (Az [(90000, 200227), (0, 0)] rfl rfl rfl (Aj (Au (E := Ah.E) _ false) (oR (oR (oR (Aj (Dz (E := Ab.E) (id := 200227) (l' := x197) rfl rfl) (Aj (Au (E := Av.E) _ false) (oR (oR A6)))))))) (A3 (Dy (E := Ab.E) (ty := 37) (l' := x197) rfl (show Al _ 200227 = _ from (by first | rfl | (simp (disch := first | decide | assumption) only [lk])))) (A3 (Be (cs := [(Aa k0_0), (Aa k0_1), (Aa k0_2), (Aa k0_3), (Aa k0_4), (Aa k0_5), (Aa k0_6), (Aa k0_7), (Aa k0_8), (Aa k0_9), (Aa k0_10), (Aa k0_11), (Aa k0_12), (Aa k0_13), (Aa k0_14), (Aa k0_15)]) (ty := 25) rfl (show Al _ 0 = _ from (by first | rfl | (simp (disch := first | decide | assumption) only [lk])))) A0)))
          · refine iq (AV.agg [(Aa bw100145_0), (Aa bw100145_1), (Ac bw100145_2), (Aa x194.1)]) (Ft (b := ⟨[(Aa bw100145_0), (Aa bw100145_1), (Ac bw100145_2), (Aa x194.1)], 37⟩) (by first | rfl | (simp (disch := first | decide | assumption) only [lk])) rfl) ?_
            refine imp Fc ?_
            iterate 2 refine imp Ai ?_
            refine imp Dk ?_
            refine imp Ai ?_
            refine imp (Dl (show _ = some ((Eu Ab.E 200223 ([(⟨bw100145_0, bw100145_1, bw100145_2, x194.1⟩ : Ab)] : List Ab)), [(200223, some ⟨Ay Ab.E ([(⟨bw100145_0, bw100145_1, bw100145_2, x194.1⟩ : Ab)] : List Ab), 37⟩)]) from rfl)) ?_
            refine Aq fun x198 h198 => ?_
            refine imp (Gf (show D2 _ _ _ _ _ _ (B5 Ab.E 200224 x198) [(200224, Cs Ab.E 37 x198), (200223, none), (90000, none)] from e8 rfl (by first | rfl | (simp (disch := first | decide | assumption) only [lk])) rfl (by first | rfl | (simp (disch := first | decide | assumption) only [lk])) (by decide) h198)) ?_
            exact fun hg => hN0 _ (Option.some.inj hg).symm _ (Az [(90000, 200224), (0, 0)] rfl rfl rfl (Aj (Au (E := Ah.E) _ false) (oR (oR (oR (Aj (Dz (E := Ab.E) (id := 200224) (l' := x198) rfl rfl) (Aj (Au (E := Av.E) _ false) (oR (oR A6)))))))) (A3 (Dy (E := Ab.E) (ty := 37) (l' := x198) rfl (show Al _ 200224 = _ from (by first | rfl | (simp (disch := first | decide | assumption) only [lk])))) (A3 (Be (cs := [(Aa k0_0), (Aa k0_1), (Aa k0_2), (Aa k0_3), (Aa k0_4), (Aa k0_5), (Aa k0_6), (Aa k0_7), (Aa k0_8), (Aa k0_9), (Aa k0_10), (Aa k0_11), (Aa k0_12), (Aa k0_13), (Aa k0_14), (Aa k0_15)]) (ty := 25) rfl (show Al _ 0 = _ from (by first | rfl | (simp (disch := first | decide | assumption) only [lk])))) A0)))
      · refine iq (Aa bw100145_0) (Ec (b := ⟨[(Aa bw100145_0), (Aa bw100145_1), (Ac bw100145_2), (Aa bw100145_3)], 37⟩) (by first | rfl | (simp (disch := first | decide | assumption) only [lk])) rfl) ?_
        refine imp Ai ?_
        refine imp (Kj (by kernel_rfl) (by kernel_rfl) rfl (cs := [(Aa bw100145_0), (Aa bw100145_1), (Ac bw100145_2), (Aa bw100145_3)]) (cs' := [(Aa (IntKind.wrap .i64 (bw100145_0 + (1)))), (Aa bw100145_1), (Ac bw100145_2), (Aa bw100145_3)]) (ty := 37) (by first | rfl | (simp (disch := first | decide | assumption) only [lk])) rfl rfl) ?_
        exact fun hg => hN1 _ (Option.some.inj hg).symm _ (Az [(90000, 90000), (0, 0), (100145, 100145)] rfl rfl rfl (Aj (Au (E := Ah.E) _ false) (oR (oR (oR (Aj (Dz (E := Ab.E) (id := 90000) (l' := L90000) rfl rfl) (oR (Aj (Au (E := Av.E) _ false) (oR (oR A6))))))))) (A3 (Dy (E := Ab.E) (ty := 37) (l' := L90000) rfl (show Al _ 90000 = _ from (by first | rfl | (simp (disch := first | decide | assumption) only [lk])))) (A3 (Be (cs := [(Aa k0_0), (Aa k0_1), (Aa k0_2), (Aa k0_3), (Aa k0_4), (Aa k0_5), (Aa k0_6), (Aa k0_7), (Aa k0_8), (Aa k0_9), (Aa k0_10), (Aa k0_11), (Aa k0_12), (Aa k0_13), (Aa k0_14), (Aa k0_15)]) (ty := 25) rfl (show Al _ 0 = _ from (by first | rfl | (simp (disch := first | decide | assumption) only [lk])))) (A3 (Be (cs := [(Aa (IntKind.wrap .i64 (bw100145_0 + (1)))), (Aa bw100145_1), (Ac bw100145_2), (Aa bw100145_3)]) (ty := 37) rfl (show Al _ 100145 = _ from (by first | rfl | (simp (disch := first | decide | assumption) only [lk])))) A0))))
    · refine iq (Aa bw100145_0) (Ec (b := ⟨[(Aa bw100145_0), (Aa bw100145_1), (Ac bw100145_2), (Aa bw100145_3)], 37⟩) (by first | rfl | (simp (disch := first | decide | assumption) only [lk])) rfl) ?_
      refine imp Ai ?_
      refine imp (Kj (by kernel_rfl) (by kernel_rfl) rfl (cs := [(Aa bw100145_0), (Aa bw100145_1), (Ac bw100145_2), (Aa bw100145_3)]) (cs' := [(Aa (IntKind.wrap .i64 (bw100145_0 + (1)))), (Aa bw100145_1), (Ac bw100145_2), (Aa bw100145_3)]) (ty := 37) (by first | rfl | (simp (disch := first | decide | assumption) only [lk])) rfl rfl) ?_
      exact fun hg => hN1 _ (Option.some.inj hg).symm _ (Az [(90000, 90000), (0, 0), (100145, 100145)] rfl rfl rfl (Aj (Au (E := Ah.E) _ false) (oR (oR (oR (Aj (Dz (E := Ab.E) (id := 90000) (l' := L90000) rfl rfl) (oR (Aj (Au (E := Av.E) _ false) (oR (oR A6))))))))) (A3 (Dy (E := Ab.E) (ty := 37) (l' := L90000) rfl (show Al _ 90000 = _ from (by first | rfl | (simp (disch := first | decide | assumption) only [lk])))) (A3 (Be (cs := [(Aa k0_0), (Aa k0_1), (Aa k0_2), (Aa k0_3), (Aa k0_4), (Aa k0_5), (Aa k0_6), (Aa k0_7), (Aa k0_8), (Aa k0_9), (Aa k0_10), (Aa k0_11), (Aa k0_12), (Aa k0_13), (Aa k0_14), (Aa k0_15)]) (ty := 25) rfl (show Al _ 0 = _ from (by first | rfl | (simp (disch := first | decide | assumption) only [lk])))) (A3 (Be (cs := [(Aa (IntKind.wrap .i64 (bw100145_0 + (1)))), (Aa bw100145_1), (Ac bw100145_2), (Aa bw100145_3)]) (ty := 37) rfl (show Al _ 100145 = _ from (by first | rfl | (simp (disch := first | decide | assumption) only [lk])))) A0))))
  · refine iq (Aa bw100145_0) (Ec (b := ⟨[(Aa bw100145_0), (Aa bw100145_1), (Ac bw100145_2), (Aa bw100145_3)], 37⟩) (by first | rfl | (simp (disch := first | decide | assumption) only [lk])) rfl) ?_
    refine imp Ai ?_
    refine An (fun _ => ?_) (fun _ => ?_)
    · exact fun hg => hR _ (Option.some.inj hg).symm _ _ ⟨_, rfl, Ep⟩
    · refine Aq fun x199 h199 => ?_
      refine imp (Er (Ej (Aw (Im (E := Ab.E) (ty := 37) (l' := L90000) _ Ab.nf rfl (by first | rfl | (simp (disch := first | decide | assumption) only [lk]))) (Aw (W0 _ _ (Aw (bA _ (ty := 37) (us := [(Aa bw100145_0), (Aa bw100145_1), (Ac bw100145_2), (Aa bw100145_3)]) (by first | rfl | (simp (disch := first | decide | assumption) only [lk])) (Aw (Bw _ _) (Aw (Bw _ _) (Aw (Bw _ _) (Aw (Bw _ _) Dc))))) Dc)) Dc)) (Aeb h199) rfl)) ?_
      refine imp Ai ?_
      refine An (fun _ => ?_) (fun _ => ?_)
      · refine imp (Es (show _ = some ((Aa (L90000.length : Int)), []) from Ji)) ?_
        refine imp Ai ?_
        refine iq (AV.agg [(Aa bw100145_0), (Aa bw100145_1), (Ac bw100145_2), (Aa bw100145_3)]) (Ft (b := ⟨[(Aa bw100145_0), (Aa bw100145_1), (Ac bw100145_2), (Aa bw100145_3)], 37⟩) (by first | rfl | (simp (disch := first | decide | assumption) only [lk])) rfl) ?_
        refine imp Fc ?_
        iterate 2 refine imp Ai ?_
        refine imp Dk ?_
        refine imp Ai ?_
        refine imp (Dl (show _ = some ((Eu Ab.E 200081 ([(⟨bw100145_0, bw100145_1, bw100145_2, bw100145_3⟩ : Ab)] : List Ab)), [(200081, some ⟨Ay Ab.E ([(⟨bw100145_0, bw100145_1, bw100145_2, bw100145_3⟩ : Ab)] : List Ab), 37⟩)]) from rfl)) ?_
        refine Aq fun x200 h200 => ?_
        refine imp (Gf (show D2 _ _ _ _ _ _ (B5 Ab.E 200082 x200) [(200082, Cs Ab.E 37 x200), (200081, none), (90000, none)] from e8 rfl (by first | rfl | (simp (disch := first | decide | assumption) only [lk])) rfl (by first | rfl | (simp (disch := first | decide | assumption) only [lk])) (by decide) h200)) ?_
        exact fun hg => hN0 _ (Option.some.inj hg).symm _ (Az [(90000, 200082), (0, 0)] rfl rfl rfl (Aj (Au (E := Ah.E) _ false) (oR (oR (oR (Aj (Dz (E := Ab.E) (id := 200082) (l' := x200) rfl rfl) (Aj (Au (E := Av.E) _ false) (oR (oR A6)))))))) (A3 (Dy (E := Ab.E) (ty := 37) (l' := x200) rfl (show Al _ 200082 = _ from (by first | rfl | (simp (disch := first | decide | assumption) only [lk])))) (A3 (Be (cs := [(Aa k0_0), (Aa k0_1), (Aa k0_2), (Aa k0_3), (Aa k0_4), (Aa k0_5), (Aa k0_6), (Aa k0_7), (Aa k0_8), (Aa k0_9), (Aa k0_10), (Aa k0_11), (Aa k0_12), (Aa k0_13), (Aa k0_14), (Aa k0_15)]) (ty := 25) rfl (show Al _ 0 = _ from (by first | rfl | (simp (disch := first | decide | assumption) only [lk])))) A0)))
      · refine iq (AV.agg [(Aa bw100145_0), (Aa bw100145_1), (Ac bw100145_2), (Aa bw100145_3)]) (Ft (b := ⟨[(Aa bw100145_0), (Aa bw100145_1), (Ac bw100145_2), (Aa bw100145_3)], 37⟩) (by first | rfl | (simp (disch := first | decide | assumption) only [lk])) rfl) ?_
        refine imp Fc ?_
        iterate 2 refine imp Ai ?_
        refine imp Dk ?_
        refine imp Ai ?_
        refine imp (Dl (show _ = some ((Eu Ab.E 200078 ([(⟨bw100145_0, bw100145_1, bw100145_2, bw100145_3⟩ : Ab)] : List Ab)), [(200078, some ⟨Ay Ab.E ([(⟨bw100145_0, bw100145_1, bw100145_2, bw100145_3⟩ : Ab)] : List Ab), 37⟩)]) from rfl)) ?_
        refine Aq fun x201 h201 => ?_
        refine imp (Gf (show D2 _ _ _ _ _ _ (B5 Ab.E 200079 x201) [(200079, Cs Ab.E 37 x201), (200078, none), (90000, none)] from e8 rfl (by first | rfl | (simp (disch := first | decide | assumption) only [lk])) rfl (by first | rfl | (simp (disch := first | decide | assumption) only [lk])) (by decide) h201)) ?_
        exact fun hg => hN0 _ (Option.some.inj hg).symm _ (Az [(90000, 200079), (0, 0)] rfl rfl rfl (Aj (Au (E := Ah.E) _ false) (oR (oR (oR (Aj (Dz (E := Ab.E) (id := 200079) (l' := x201) rfl rfl) (Aj (Au (E := Av.E) _ false) (oR (oR A6)))))))) (A3 (Dy (E := Ab.E) (ty := 37) (l' := x201) rfl (show Al _ 200079 = _ from (by first | rfl | (simp (disch := first | decide | assumption) only [lk])))) (A3 (Be (cs := [(Aa k0_0), (Aa k0_1), (Aa k0_2), (Aa k0_3), (Aa k0_4), (Aa k0_5), (Aa k0_6), (Aa k0_7), (Aa k0_8), (Aa k0_9), (Aa k0_10), (Aa k0_11), (Aa k0_12), (Aa k0_13), (Aa k0_14), (Aa k0_15)]) (ty := 25) rfl (show Al _ 0 = _ from (by first | rfl | (simp (disch := first | decide | assumption) only [lk])))) A0)))
theorem Zm (n : Nat) (a1 : List Ah) (c9 : Int) (a3 : List Av) (c41 : Int) (v42 : Int) (k0_0 : Int) (k0_1 : Int) (k0_2 : Int) (k0_3 : Int) (k0_4 : Int) (k0_5 : Int) (k0_6 : Int) (k0_7 : Int) (k0_8 : Int) (k0_9 : Int) (k0_10 : Int) (k0_11 : Int) (k0_12 : Int) (k0_13 : Int) (k0_14 : Int) (k0_15 : Int) {t : ((Int × List Ab) ⊕ fC)} (R : AV → Mem → Prop) (N0 : St → Prop) (hR : ∀ r : fC, t = (.inr r) → ∀ u m, Jt Ab.E 37 r.1 [Value.int .i64 r.2] u m → R u m) (hN0 : ∀ y : Int × List Ab, t = (.inl y) → ∀ s' : St, Bo KK 100 0 s' (Yw (Am Ah.E a1) AV.Cc c9 (B5 Ab.E 90000 y.2) (Am Av.E a3) c41 y.1 [(90000, Cs Ab.E 37 y.2), (0, some ⟨[(Aa k0_0), (Aa k0_1), (Aa k0_2), (Aa k0_3), (Aa k0_4), (Aa k0_5), (Aa k0_6), (Aa k0_7), (Aa k0_8), (Aa k0_9), (Aa k0_10), (Aa k0_11), (Aa k0_12), (Aa k0_13), (Aa k0_14), (Aa k0_15)], 25⟩)]) → N0 s') (k : Nat) (x : List Ab × Int × Int × Bool × Int) (hx : Ba (fun y : List Ab × Int × Int × Bool × Int => Jr n a1 c9 a3 c41 v42 k0_0 k0_1 k0_2 k0_3 k0_4 k0_5 k0_6 k0_7 k0_8 k0_9 k0_10 k0_11 k0_12 k0_13 k0_14 k0_15 y.1 y.2.1 y.2.2.1 y.2.2.2.1 y.2.2.2.2) k x = some t) {s : St} (hw : Bo KK 100 0 s (Ot (Am Ah.E a1) AV.Cc c9 (B5 Ab.E 90000 x.1) (Am Av.E a3) c41 v42 [(90000, Cs Ab.E 37 x.1), (0, some ⟨[(Aa k0_0), (Aa k0_1), (Aa k0_2), (Aa k0_3), (Aa k0_4), (Aa k0_5), (Aa k0_6), (Aa k0_7), (Aa k0_8), (Aa k0_9), (Aa k0_10), (Aa k0_11), (Aa k0_12), (Aa k0_13), (Aa k0_14), (Aa k0_15)], 25⟩), (100145, some ⟨[(Aa x.2.1), (Aa x.2.2.1), (Ac x.2.2.2.1), (Aa x.2.2.2.2)], 37⟩)])) : Ca pg KK 100 0 (.loop Ux) s (Vb R N0) :=
  yV R N0 (σ := Nat × (List Ab × Int × Int × Bool × Int)) (fun z => Ba (fun y : List Ab × Int × Int × Bool × Int => Jr n a1 c9 a3 c41 v42 k0_0 k0_1 k0_2 k0_3 k0_4 k0_5 k0_6 k0_7 k0_8 k0_9 k0_10 k0_11 k0_12 k0_13 k0_14 k0_15 y.1 y.2.1 y.2.2.1 y.2.2.2.1 y.2.2.2.2) z.1 z.2 = some t) (fun z => (Am Ah.E a1)) (fun z => AV.Cc) (fun z => c9) (fun z => (B5 Ab.E 90000 z.2.1)) (fun z => (Am Av.E a3)) (fun z => c41) (fun z => v42) (fun z => [(90000, Cs Ab.E 37 z.2.1), (0, some ⟨[(Aa k0_0), (Aa k0_1), (Aa k0_2), (Aa k0_3), (Aa k0_4), (Aa k0_5), (Aa k0_6), (Aa k0_7), (Aa k0_8), (Aa k0_9), (Aa k0_10), (Aa k0_11), (Aa k0_12), (Aa k0_13), (Aa k0_14), (Aa k0_15)], 25⟩), (100145, some ⟨[(Aa z.2.2.1), (Aa z.2.2.2.1), (Ac z.2.2.2.2.1), (Aa z.2.2.2.2.2)], 37⟩)]) (fun z => z.1) (by
    rintro ⟨k, y⟩ h
    cases k with
    | zero => exact (Bp h).elim
    | succ k =>
      obtain ⟨u, h1, h2, h3⟩ := Bq h
      exact Zo n a1 c9 a3 c41 v42 k0_0 k0_1 k0_2 k0_3 k0_4 k0_5 k0_6 k0_7 k0_8 k0_9 k0_10 k0_11 k0_12 k0_13 k0_14 k0_15 y.1 y.2.1 y.2.2.1 y.2.2.2.1 y.2.2.2.2 R N0 _ (fun r e => hR r (h3 _ e).symm) (fun y' e => hN0 y' (h3 _ e).symm) (fun y' e s' hw => ⟨(k, y'), h2 _ e, Nat.lt_succ_self k, hw⟩) h1) (k, x) hx hw
theorem mE (n : Nat) (a1 : List Ah) (c9 : Int) (a3 : List Av) (c41 : Int) (k0_0 : Int) (k0_1 : Int) (k0_2 : Int) (k0_3 : Int) (k0_4 : Int) (k0_5 : Int) (k0_6 : Int) (k0_7 : Int) (k0_8 : Int) (k0_9 : Int) (k0_10 : Int) (k0_11 : Int) (k0_12 : Int) (k0_13 : Int) (k0_14 : Int) (k0_15 : Int) (v42 : Int) (L90000 : List Ab) {t : (Int × List Ab) ⊕ fC} (R : AV → Mem → Prop) (N0 : St → Prop) (hR : ∀ r : fC, t = (.inr r) → ∀ u m, Jt Ab.E 37 r.1 [Value.int .i64 r.2] u m → R u m) (hN0 : ∀ y : Int × List Ab, t = (.inl y) → ∀ s' : St, Bo KK 100 0 s' (Yw (Am Ah.E a1) AV.Cc c9 (B5 Ab.E 90000 y.2) (Am Av.E a3) c41 y.1 [(90000, Cs Ab.E 37 y.2), (0, some ⟨[(Aa k0_0), (Aa k0_1), (Aa k0_2), (Aa k0_3), (Aa k0_4), (Aa k0_5), (Aa k0_6), (Aa k0_7), (Aa k0_8), (Aa k0_9), (Aa k0_10), (Aa k0_11), (Aa k0_12), (Aa k0_13), (Aa k0_14), (Aa k0_15)], 25⟩)]) → N0 s') : R4 n a1 c9 a3 c41 k0_0 k0_1 k0_2 k0_3 k0_4 k0_5 k0_6 k0_7 k0_8 k0_9 k0_10 k0_11 k0_12 k0_13 k0_14 k0_15 v42 L90000 = some t → rQ (Am Ah.E a1) AV.Cc c9 (B5 Ab.E 90000 L90000) (Am Av.E a3) c41 v42 [(90000, Cs Ab.E 37 L90000), (0, some ⟨[(Aa k0_0), (Aa k0_1), (Aa k0_2), (Aa k0_3), (Aa k0_4), (Aa k0_5), (Aa k0_6), (Aa k0_7), (Aa k0_8), (Aa k0_9), (Aa k0_10), (Aa k0_11), (Aa k0_12), (Aa k0_13), (Aa k0_14), (Aa k0_15)], 25⟩)] R N0 := by
  unfold R4 rQ
  refine An (fun _ => ?_) (fun _ => ?_)
  · refine Aq fun x191 h191 => ?_
    refine iq (AV.B8 [(Aa x191.Time), (Aa x191.Bc)] 0) (Bk (E := Av.E) rfl h191) ?_
    refine iq (AV.agg [(Aa x191.Time), (Aa x191.Bc)]) rfl ?_
    refine imp J0 ?_
    iterate 2 refine imp Ai ?_
    refine Aq fun x192 h192 => ?_
    refine imp (A1 (uI h192)) ?_
    refine imp Dk ?_
    refine An (fun _ => ?_) (fun _ => ?_)
    · exact fun hg => hR _ (Option.some.inj hg).symm _ _ ⟨_, rfl, Ep⟩
    · refine Aq fun x193 h193 => ?_
      refine imp (A1 (tD h193)) ?_
      refine imp Ai ?_
      refine An (fun _ => ?_) (fun _ => ?_)
      · exact fun hg => hR _ (Option.some.inj hg).symm _ _ ⟨_, rfl, Ep⟩
      · refine iq (AV.agg [(Aa x191.Time), (Aa x191.Bc), (Ac true), (Aa (0))]) rfl ?_
        refine imp (Cv (sz := 4) (by kernel_rfl) (by kernel_rfl) rfl rfl (cs := [(Aa (0)), (Aa (0)), (Ac false), (Aa (0))]) (cs' := [(Aa x191.Time), (Aa x191.Bc), (Ac true), (Aa (0))]) (ty := 37) (by first | rfl | (simp (disch := first | decide | assumption) only [lk])) rfl rfl) ?_
        exact fun hg => Zm n a1 c9 a3 c41 v42 k0_0 k0_1 k0_2 k0_3 k0_4 k0_5 k0_6 k0_7 k0_8 k0_9 k0_10 k0_11 k0_12 k0_13 k0_14 k0_15 R N0 hR hN0 n _ hg (Az [(90000, 90000), (0, 0), (100145, 100145)] rfl rfl rfl (Aj (Au (E := Ah.E) _ false) (oR (oR (oR (Aj (Dz (E := Ab.E) (id := 90000) (l' := L90000) rfl rfl) (oR (Aj (Au (E := Av.E) _ false) (oR (oR A6))))))))) (A3 (Dy (E := Ab.E) (ty := 37) (l' := L90000) rfl (show Al _ 90000 = _ from (by first | rfl | (simp (disch := first | decide | assumption) only [lk])))) (A3 (Be (cs := [(Aa k0_0), (Aa k0_1), (Aa k0_2), (Aa k0_3), (Aa k0_4), (Aa k0_5), (Aa k0_6), (Aa k0_7), (Aa k0_8), (Aa k0_9), (Aa k0_10), (Aa k0_11), (Aa k0_12), (Aa k0_13), (Aa k0_14), (Aa k0_15)]) (ty := 25) rfl (show Al _ 0 = _ from (by first | rfl | (simp (disch := first | decide | assumption) only [lk])))) (A3 (Be (cs := [(Aa x191.Time), (Aa x191.Bc), (Ac true), (Aa (0))]) (ty := 37) rfl (show Al _ 100145 = _ from (by first | rfl | (simp (disch := first | decide | assumption) only [lk])))) A0))))
  · exact fun hg => hR _ (Option.some.inj hg).symm _ _ ⟨_, rfl, (Pn (E := Ab.E) (ty := 37) (l := L90000) rfl (by first | rfl | (simp (disch := first | decide | assumption) only [lk])))⟩
theorem l9 (n : Nat) (a1 : List Ah) (c9 : Int) (a3 : List Av) (c41 : Int) (k0_0 : Int) (k0_1 : Int) (k0_2 : Int) (k0_3 : Int) (k0_4 : Int) (k0_5 : Int) (k0_6 : Int) (k0_7 : Int) (k0_8 : Int) (k0_9 : Int) (k0_10 : Int) (k0_11 : Int) (k0_12 : Int) (k0_13 : Int) (k0_14 : Int) (k0_15 : Int) {t : fC} (R : AV → Mem → Prop) (hR : ∀ r : fC, t = r → ∀ u m, Jt Ab.E 37 r.1 [Value.int .i64 r.2] u m → R u m) (k : Nat) (x : Int × List Ab) (hx : Ba (fun y : Int × List Ab => R4 n a1 c9 a3 c41 k0_0 k0_1 k0_2 k0_3 k0_4 k0_5 k0_6 k0_7 k0_8 k0_9 k0_10 k0_11 k0_12 k0_13 k0_14 k0_15 y.1 y.2) k x = some t) {s : St} (hw : Bo KK 100 0 s (Yw (Am Ah.E a1) AV.Cc c9 (B5 Ab.E 90000 x.2) (Am Av.E a3) c41 x.1 [(90000, Cs Ab.E 37 x.2), (0, some ⟨[(Aa k0_0), (Aa k0_1), (Aa k0_2), (Aa k0_3), (Aa k0_4), (Aa k0_5), (Aa k0_6), (Aa k0_7), (Aa k0_8), (Aa k0_9), (Aa k0_10), (Aa k0_11), (Aa k0_12), (Aa k0_13), (Aa k0_14), (Aa k0_15)], 25⟩)])) : Ca pg KK 100 0 (.loop gV) s (sW R ) :=
  Ae4 R  (σ := Nat × (Int × List Ab)) (fun z => Ba (fun y : Int × List Ab => R4 n a1 c9 a3 c41 k0_0 k0_1 k0_2 k0_3 k0_4 k0_5 k0_6 k0_7 k0_8 k0_9 k0_10 k0_11 k0_12 k0_13 k0_14 k0_15 y.1 y.2) z.1 z.2 = some t) (fun z => (Am Ah.E a1)) (fun z => AV.Cc) (fun z => c9) (fun z => (B5 Ab.E 90000 z.2.2)) (fun z => (Am Av.E a3)) (fun z => c41) (fun z => z.2.1) (fun z => [(90000, Cs Ab.E 37 z.2.2), (0, some ⟨[(Aa k0_0), (Aa k0_1), (Aa k0_2), (Aa k0_3), (Aa k0_4), (Aa k0_5), (Aa k0_6), (Aa k0_7), (Aa k0_8), (Aa k0_9), (Aa k0_10), (Aa k0_11), (Aa k0_12), (Aa k0_13), (Aa k0_14), (Aa k0_15)], 25⟩)]) (fun z => z.1) (by
    rintro ⟨k, y⟩ h
    cases k with
    | zero => exact (Bp h).elim
    | succ k =>
      obtain ⟨u, h1, h2, h3⟩ := Bq h
      exact mE n a1 c9 a3 c41 k0_0 k0_1 k0_2 k0_3 k0_4 k0_5 k0_6 k0_7 k0_8 k0_9 k0_10 k0_11 k0_12 k0_13 k0_14 k0_15 y.1 y.2 R  _ (fun r e => hR r (h3 _ e).symm)  (fun y' e s' hw => ⟨(k, y'), h2 _ e, Nat.lt_succ_self k, hw⟩) h1) (k, x) hx hw
theorem Abd (n : Nat) (a0 : List Ab) (a1 : List Ah) (a2 : Ao) (a3 : List Av) {t : fC} (R : AV → Mem → Prop) (hR : ∀ r : fC, t = r → ∀ u m, Jt Ab.E 37 r.1 [Value.int .i64 r.2] u m → R u m) : g9 n a0 a1 a2 a3 = some t → F9 (Am Ab.E a0) (Am Ah.E a1) a2.Cf a2.Ce a2.Ci a2.Cn a2.Cd a2.Cl a2.Cr a2.Co a2.Cm a2.Ck a2.Ch a2.Cg a2.Cb a2.Cj a2.Cq a2.Cp (Am Av.E a3) R := by
  unfold g9 F9
  refine Aq fun x189 h189 => ?_
  refine imp (A1 (sg7 h189)) ?_
  refine imp Uc ?_
  iterate 3 refine imp Ai ?_
  refine An (fun _ => ?_) (fun _ => ?_)
  · exact fun hg => hR _ (Option.some.inj hg).symm _ _ ⟨_, rfl, Ep⟩
  · refine iq (Aa (a0.length : Int)) rfl ?_
    refine imp Ai ?_
    refine iq (Aa (a3.length : Int)) rfl ?_
    refine imp Ai ?_
    refine An (fun _ => ?_) (fun _ => ?_)
    · exact fun hg => hR _ (Option.some.inj hg).symm _ _ ⟨_, rfl, Ep⟩
    · refine Aq fun x190 h190 => ?_
      refine imp (Gf (show D2 _ _ _ _ _ _ (B5 Ab.E 86 a0) [(86, Cs Ab.E 37 a0)] from mT h190)) ?_
      refine iq (Aa (a3.length : Int)) rfl ?_
      refine imp Ai ?_
      exact fun hg => l9 n a1 (0) a3 (a3.length : Int) a2.Cf a2.Ce a2.Ci a2.Cn a2.Cd a2.Cl a2.Cr a2.Co a2.Cm a2.Ck a2.Ch a2.Cg a2.Cb a2.Cj a2.Cq a2.Cp R  hR n _ hg (Az [(90000, 86), (0, 0)] rfl rfl rfl (Aj (Au (E := Ah.E) _ false) (oR (oR (oR (Aj (Dz (E := Ab.E) (id := 86) (l' := a0) rfl rfl) (Aj (Au (E := Av.E) _ false) (oR (oR A6)))))))) (A3 (Dy (E := Ab.E) (ty := 37) (l' := a0) rfl (show Al _ 86 = _ from (by first | rfl | (simp (disch := first | decide | assumption) only [lk])))) (A3 (Be (cs := [(Aa a2.Cf), (Aa a2.Ce), (Aa a2.Ci), (Aa a2.Cn), (Aa a2.Cd), (Aa a2.Cl), (Aa a2.Cr), (Aa a2.Co), (Aa a2.Cm), (Aa a2.Ck), (Aa a2.Ch), (Aa a2.Cg), (Aa a2.Cb), (Aa a2.Cj), (Aa a2.Cq), (Aa a2.Cp)]) (ty := 25) rfl (show Al _ 0 = _ from (by first | rfl | (simp (disch := first | decide | assumption) only [lk])))) A0)))
theorem Afx {n k : Nat} {look : Nat → Option Bi} {args : List AV} {a0 : List Ab} {a1 : List Ah} {a2 : Ao} {a3 : List Av} {t : fC} (h : g9 n a0 a1 a2 a3 = some t) (hs : aX look 6 args [(Am Ab.E a0), (Am Ah.E a1), (AV.agg [(Aa a2.Cf), (Aa a2.Ce), (Aa a2.Ci), (Aa a2.Cn), (Aa a2.Cd), (Aa a2.Cl), (Aa a2.Cr), (Aa a2.Co), (Aa a2.Cm), (Aa a2.Ck), (Aa a2.Ch), (Aa a2.Cg), (Aa a2.Cb), (Aa a2.Cj), (Aa a2.Cq), (Aa a2.Cp)]), (Am Av.E a3)]) : D2 pg KK.gl look k 9 args (.tup (B5 Ab.E k t.1 :: ([Value.int .i64 t.2] : List Value).map AV.sc)) [(k, Cs Ab.E 37 t.1)] :=
  iW (fun _ => rfl) hs (yR (Am Ab.E a0) (Am Ah.E a1) a2.Cf a2.Ce a2.Ci a2.Cn a2.Cd a2.Cl a2.Cr a2.Co a2.Cm a2.Ck a2.Ch a2.Cg a2.Cb a2.Cj a2.Cq a2.Cp (Am Av.E a3) _ (Abd n a0 a1 a2 a3 (Jt Ab.E 37 t.1 [Value.int .i64 t.2]) (fun r e u m h => by rw [e]; exact h) h))
theorem pR (n : Nat) (a0 : List Ab) (a1 : List Ab) (c4 : Bool) (Q6 : Int) (v13 : Int) {t : (Int) ⊕ Wj} (R : AV → Mem → Prop) (N0 : St → Prop) (hR : ∀ r : Wj, t = (.inr r) → ∀ u m, Cu ((Ac r)) u m → R u m) (hN0 : ∀ y : Int, t = (.inl y) → ∀ s' : St, Bo KK 26 0 s' (Tj (Am Ab.E a0) (Am Ab.E a1) c4 Q6 y []) → N0 s') : L5 n a0 a1 c4 Q6 v13 = some t → bI (Am Ab.E a0) (Am Ab.E a1) c4 Q6 v13 [] R N0 := by
  unfold L5 bI
  refine An (fun _ => ?_) (fun _ => ?_)
  · refine Aq fun x205 h205 => ?_
    refine iq (AV.B8 [(Aa x205.Time), (Aa x205.Bc), (Ac x205.Bd), (Aa x205.End)] 0) (Bk (E := Ab.E) rfl h205) ?_
    refine iq (AV.agg [(Aa x205.Time), (Aa x205.Bc), (Ac x205.Bd), (Aa x205.End)]) rfl ?_
    refine imp Fc ?_
    iterate 2 refine imp Ai ?_
    refine imp Dk ?_
    refine imp Ai ?_
    refine Aq fun x206 h206 => ?_
    refine iq (AV.B8 [(Aa x206.Time), (Aa x206.Bc), (Ac x206.Bd), (Aa x206.End)] 0) (Bk (E := Ab.E) rfl h206) ?_
    refine iq (AV.agg [(Aa x206.Time), (Aa x206.Bc), (Ac x206.Bd), (Aa x206.End)]) rfl ?_
    refine imp Fc ?_
    iterate 2 refine imp Ai ?_
    refine imp Dk ?_
    refine imp Ai ?_
    refine iq (Ac (!(decide (x205 = x206)))) (Ab.Adm (x205) (x206)) ?_
    refine imp Dk ?_
    refine An (fun _ => ?_) (fun _ => ?_)
    · exact Df hR rfl rfl
    · exact fun hg => hN0 _ (Option.some.inj hg).symm _ (Az [] rfl rfl rfl (Aj (Au (E := Ab.E) _ false) (Aj (Au (E := Ab.E) _ false) (oR (oR (oR A6))))) A0)
  · exact Df hR rfl rfl
theorem k8 (n : Nat) (a0 : List Ab) (a1 : List Ab) (c4 : Bool) (Q6 : Int) {t : Wj} (R : AV → Mem → Prop) (hR : ∀ r : Wj, t = r → ∀ u m, Cu ((Ac r)) u m → R u m) (k : Nat) (x : Int) (hx : Ba (fun y : Int => L5 n a0 a1 c4 Q6 y) k x = some t) {s : St} (hw : Bo KK 26 0 s (Tj (Am Ab.E a0) (Am Ab.E a1) c4 Q6 x [])) : Ca pg KK 26 0 (.loop dI) s (cJ R ) :=
  Ac7 R  (σ := Nat × (Int)) (fun z => Ba (fun y : Int => L5 n a0 a1 c4 Q6 y) z.1 z.2 = some t) (fun z => (Am Ab.E a0)) (fun z => (Am Ab.E a1)) (fun z => c4) (fun z => Q6) (fun z => z.2) (fun z => []) (fun z => z.1) (by
    rintro ⟨k, y⟩ h
    cases k with
    | zero => exact (Bp h).elim
    | succ k =>
      obtain ⟨u, h1, h2, h3⟩ := Bq h
      exact pR n a0 a1 c4 Q6 y R  _ (fun r e => hR r (h3 _ e).symm)  (fun y' e s' hw => ⟨(k, y'), h2 _ e, Nat.lt_succ_self k, hw⟩) h1) (k, x) hx hw
theorem yC (n : Nat) (a0 : List Ab) (a1 : List Ab) {t : Wj} (R : AV → Mem → Prop) (hR : ∀ r : Wj, t = r → ∀ u m, Cu ((Ac r)) u m → R u m) : g13 n a0 a1 = some t → F13 (Am Ab.E a0) (Am Ab.E a1) R := by
  unfold g13 F13
  refine iq (Aa (a0.length : Int)) rfl ?_
  refine imp Ai ?_
  refine iq (Aa (a1.length : Int)) rfl ?_
  refine imp Ai ?_
  refine An (fun _ => ?_) (fun _ => ?_)
  · exact Df hR rfl rfl
  · refine iq (Aa (a0.length : Int)) rfl ?_
    refine imp Ai ?_
    exact fun hg => k8 n a0 a1 false (a0.length : Int) R  hR n _ hg (Az [] rfl rfl rfl (Aj (Au (E := Ab.E) _ false) (Aj (Au (E := Ab.E) _ false) (oR (oR (oR A6))))) A0)
theorem Acl {n : Nat} {a0 : List Ab} {a1 : List Ab} {t : Wj} (h : g13 n a0 a1 = some t) : C3 pg KK.gl 13 [(Am Ab.E a0), (Am Ab.E a1)] ((Ac t)) :=
  A5 (by first | rfl | simp [As, clean, Ak, En.Di]) (by first | rfl | simp [As, clean, Ak, En.Di]) (vF (Am Ab.E a0) (Am Ab.E a1) _ (yC n a0 a1 (Cu ((Ac t))) (fun r e u m h => by rw [e]; exact h) h))
theorem yW (n : Nat) (a0 : Ab) {t : tK} (R : AV → Mem → Prop) (hR : ∀ r : tK, t = r → ∀ u m, Cu ((Ac r)) u m → R u m) : g12 n a0 = some t → F12 a0.Time a0.Bc a0.Bd a0.End R := by
  unfold g12 F12
  exact Df hR rfl rfl
theorem Ada {n : Nat} {a0 : Ab} {t : tK} (h : g12 n a0 = some t) : C3 pg KK.gl 12 [(AV.agg [(Aa a0.Time), (Aa a0.Bc), (Ac a0.Bd), (Aa a0.End)])] ((Ac t)) :=
  A5 (by first | rfl | simp [As, clean, Ak, En.Di]) (by first | rfl | simp [As, clean, Ak, En.Di]) (tW a0.Time a0.Bc a0.Bd a0.End _ (yW n a0 (Cu ((Ac t))) (fun r e u m h => by rw [e]; exact h) h))
theorem Yg (n : Nat) (a0 : List Ab) (c4 : Int) (c7 : Int) (v8 : Int) {t : (Int) ⊕ Jv} (R : AV → Mem → Prop) (N0 : St → Prop) (hR : ∀ r : Jv, t = (.inr r) → ∀ u m, Cu ((Aa r)) u m → R u m) (hN0 : ∀ y : Int, t = (.inl y) → ∀ s' : St, Bo KK 19 0 s' (Pc (Am Ab.E a0) (AV.fn 12 []) c4 c7 y []) → N0 s') : Gy n a0 c4 c7 v8 = some t → Sc (Am Ab.E a0) (AV.fn 12 []) c4 c7 v8 [] R N0 := by
  unfold Gy Sc
  refine An (fun _ => ?_) (fun _ => ?_)
  · refine Aq fun x208 h208 => ?_
    refine iq (AV.B8 [(Aa x208.Time), (Aa x208.Bc), (Ac x208.Bd), (Aa x208.End)] 0) (Bk (E := Ab.E) rfl h208) ?_
    refine iq (AV.agg [(Aa x208.Time), (Aa x208.Bc), (Ac x208.Bd), (Aa x208.End)]) rfl ?_
    refine imp Fc ?_
    iterate 2 refine imp Ai ?_
    refine imp Dk ?_
    refine imp Ai ?_
    refine Aq fun x209 h209 => ?_
    refine imp It ?_
    refine imp (Qh rfl) ?_
    refine imp (A1 (Ada h209)) ?_
    refine imp Dk ?_
    refine An (fun _ => ?_) (fun _ => ?_)
    · exact Df hR rfl rfl
    · exact fun hg => hN0 _ (Option.some.inj hg).symm _ (Az [] rfl rfl rfl (Aj (Au (E := Ab.E) _ false) (oR (oR (oR (oR A6))))) A0)
  · exact Df hR rfl rfl
theorem Xr (n : Nat) (a0 : List Ab) (c4 : Int) (c7 : Int) {t : Jv} (R : AV → Mem → Prop) (hR : ∀ r : Jv, t = r → ∀ u m, Cu ((Aa r)) u m → R u m) (k : Nat) (x : Int) (hx : Ba (fun y : Int => Gy n a0 c4 c7 y) k x = some t) {s : St} (hw : Bo KK 19 0 s (Pc (Am Ab.E a0) (AV.fn 12 []) c4 c7 x [])) : Ca pg KK 19 0 (.loop Yu) s (Xb R ) :=
  xP R  (σ := Nat × (Int)) (fun z => Ba (fun y : Int => Gy n a0 c4 c7 y) z.1 z.2 = some t) (fun z => (Am Ab.E a0)) (fun z => (AV.fn 12 [])) (fun z => c4) (fun z => c7) (fun z => z.2) (fun z => []) (fun z => z.1) (by
    rintro ⟨k, y⟩ h
    cases k with
    | zero => exact (Bp h).elim
    | succ k =>
      obtain ⟨u, h1, h2, h3⟩ := Bq h
      exact Yg n a0 c4 c7 y R  _ (fun r e => hR r (h3 _ e).symm)  (fun y' e s' hw => ⟨(k, y'), h2 _ e, Nat.lt_succ_self k, hw⟩) h1) (k, x) hx hw
theorem j7 (n : Nat) (a0 : List Ab) {t : Jv} (R : AV → Mem → Prop) (hR : ∀ r : Jv, t = r → ∀ u m, Cu ((Aa r)) u m → R u m) : Tp n a0 = some t → F52 (Am Ab.E a0) (AV.fn 12 []) R := by
  unfold Tp F52
  refine iq (Aa (a0.length : Int)) rfl ?_
  refine imp Ai ?_
  exact fun hg => Xr n a0 (0) (a0.length : Int) R  hR n _ hg (Az [] rfl rfl rfl (Aj (Au (E := Ab.E) _ false) (oR (oR (oR (oR A6))))) A0)
theorem Aag {n : Nat} {a0 : List Ab} {t : Jv} (h : Tp n a0 = some t) : C3 pg KK.gl 52 [(Am Ab.E a0), (AV.fn 12 [])] ((Aa t)) :=
  A5 (by first | rfl | simp [As, clean, Ak, En.Di]) (by first | rfl | simp [As, clean, Ak, En.Di]) (cN (Am Ab.E a0) (AV.fn 12 []) _ (j7 n a0 (Cu ((Aa t))) (fun r e u m h => by rw [e]; exact h) h))
theorem iC (n : Nat) (v5 : Int) (v6 : Int) (L90000 : List Ab) {t : (Int × Int × List Ab) ⊕ U1} (R : AV → Mem → Prop) (N0 : St → Prop) (hR : ∀ r : U1, t = (.inr r) → ∀ u m, Jn Ab.E 37 r u m → R u m) (hN0 : ∀ y : Int × Int × List Ab, t = (.inl y) → ∀ s' : St, Bo KK 42 0 s' (O0 (B5 Ab.E 90000 y.2.2) (AV.fn 12 []) AV.Cc y.1 y.2.1 [(90000, Cs Ab.E 37 y.2.2)]) → N0 s') : Jc n  v5 v6 L90000 = some t → Un (B5 Ab.E 90000 L90000) (AV.fn 12 []) AV.Cc v5 v6 [(90000, Cs Ab.E 37 L90000)] R N0 := by
  unfold Jc Un
  refine imp (Es (show _ = some ((Aa (L90000.length : Int)), []) from Ji)) ?_
  refine imp Ai ?_
  refine An (fun _ => ?_) (fun _ => ?_)
  · refine Aq fun x211 h211 => ?_
    refine iq (AV.ptr 90000 (((v6 : Int).toNat) * 4 + 0)) (Lm (E := Ab.E) rfl h211) ?_
    refine iq (AV.agg [(Aa x211.Time), (Aa x211.Bc), (Ac x211.Bd), (Aa x211.End)]) (vS (E := Ab.E) (l := L90000) (ty := 37) rfl (I5 (ty := 37) (by first | rfl | (simp (disch := first | decide | assumption) only [lk])) (B7 h211).2) (B7 h211).2 rfl) ?_
    refine imp Fc ?_
    iterate 2 refine imp Ai ?_
    refine imp Dk ?_
    refine imp Ai ?_
    refine Aq fun x212 h212 => ?_
    refine imp It ?_
    refine imp (Qh rfl) ?_
    refine imp (A1 (Ada h212)) ?_
    refine imp Dk ?_
    refine An (fun _ => ?_) (fun _ => ?_)
    · refine Aq fun x213 h213 => ?_
      refine iq (AV.ptr 90000 (((v5 : Int).toNat) * 4 + 0)) (Lm (E := Ab.E) rfl h213) ?_
      refine imp (Za (E := Ab.E) (l := L90000) (i := ((v5 : Int).toNat)) (y := x211) (ty := 37) (by kernel_rfl) (by kernel_rfl) rfl rfl (by first | rfl | (simp (disch := first | decide | assumption) only [lk])) (B7 h213).2 rfl) ?_
      exact fun hg => hN0 _ (Option.some.inj hg).symm _ (Az [(90000, 90000)] rfl rfl rfl (Aj (Dz (E := Ab.E) (id := 90000) (l' := (L90000.set ((v5 : Int).toNat) x211)) (by first | rfl | omega | (simp; done) | (simp; omega)) rfl) (oR (oR (oR (oR A6))))) (A3 (Dy (E := Ab.E) (ty := 37) (l' := (L90000.set ((v5 : Int).toNat) x211)) rfl (show Al _ 90000 = _ from (by first | rfl | (simp (disch := first | decide | assumption) only [lk])))) A0))
    · exact fun hg => hN0 _ (Option.some.inj hg).symm _ (Az [(90000, 90000)] rfl rfl rfl (Aj (Dz (E := Ab.E) (id := 90000) (l' := L90000) rfl rfl) (oR (oR (oR (oR A6))))) (A3 (Dy (E := Ab.E) (ty := 37) (l' := L90000) rfl (show Al _ 90000 = _ from (by first | rfl | (simp (disch := first | decide | assumption) only [lk])))) A0))
  · refine Aq fun x214 h214 => ?_
    refine iq (Ve Ab.E 90000 L90000.length (v5 : Int).toNat x214.length) (y8 (E := Ab.E) (e := 37) (by kernel_rfl) (by kernel_rfl) rfl h214) ?_
    refine Aq fun x215 h215 => ?_
    have lh215 : (Ls ((⟨(0), (0), false, (0)⟩ : Ab) : Ab) L90000 x214 ((v5 : Int).toNat)).length = L90000.length := oQ h214
    refine imp (Dl (show _ = some ((AV.tup []), [(90000, Cs Ab.E 37 (Ls ((⟨(0), (0), false, (0)⟩ : Ab) : Ab) L90000 x214 ((v5 : Int).toNat)))]) from (gD (E := Ab.E) (e := 37) (sz := 4) (z := ((⟨(0), (0), false, (0)⟩ : Ab) : Ab)) (by kernel_rfl) (by kernel_rfl) rfl (by kernel_rfl) h214 h215 (by first | rfl | (simp (disch := first | decide | assumption) only [lk]))))) ?_
    refine imp kK ?_
    refine Aq fun x216 h216 => ?_
    refine iq (Ve Ab.E 90000 (Ls ((⟨(0), (0), false, (0)⟩ : Ab) : Ab) L90000 x214 ((v5 : Int).toNat)).length 0 x216.length) (Aaz (E := Ab.E) (e := 37) (by kernel_rfl) (by kernel_rfl) (by first | rfl | omega | (simp; done) | (simp; omega)) h216) ?_
    exact fun hg => hR _ (Option.some.inj hg).symm _ _ (Wm (E := Ab.E) (ty := 37) (l := (Ls ((⟨(0), (0), false, (0)⟩ : Ab) : Ab) L90000 x214 ((v5 : Int).toNat))) (eS (by assumption)) h216 (by first | rfl | (simp (disch := first | decide | assumption) only [lk])))
theorem jD (n : Nat) {t : U1} (R : AV → Mem → Prop) (hR : ∀ r : U1, t = r → ∀ u m, Jn Ab.E 37 r u m → R u m) (k : Nat) (x : Int × Int × List Ab) (hx : Ba (fun y : Int × Int × List Ab => Jc n y.1 y.2.1 y.2.2) k x = some t) {s : St} (hw : Bo KK 42 0 s (O0 (B5 Ab.E 90000 x.2.2) (AV.fn 12 []) AV.Cc x.1 x.2.1 [(90000, Cs Ab.E 37 x.2.2)])) : Ca pg KK 42 0 (.loop Up) s (U4 R ) :=
  Abh R  (σ := Nat × (Int × Int × List Ab)) (fun z => Ba (fun y : Int × Int × List Ab => Jc n y.1 y.2.1 y.2.2) z.1 z.2 = some t) (fun z => (B5 Ab.E 90000 z.2.2.2)) (fun z => (AV.fn 12 [])) (fun z => AV.Cc) (fun z => z.2.1) (fun z => z.2.2.1) (fun z => [(90000, Cs Ab.E 37 z.2.2.2)]) (fun z => z.1) (by
    rintro ⟨k, y⟩ h
    cases k with
    | zero => exact (Bp h).elim
    | succ k =>
      obtain ⟨u, h1, h2, h3⟩ := Bq h
      exact iC n y.1 y.2.1 y.2.2 R  _ (fun r e => hR r (h3 _ e).symm)  (fun y' e s' hw => ⟨(k, y'), h2 _ e, Nat.lt_succ_self k, hw⟩) h1) (k, x) hx hw
theorem w5 (n : Nat) (a0 : List Ab) {t : U1} (h0 : a0 ≠ []) (R : AV → Mem → Prop) (hR : ∀ r : U1, t = r → ∀ u m, Jn Ab.E 37 r u m → R u m) : g10 n a0 = some t → sB (B5 Ab.E 0 a0) (AV.fn 12 []) [(0, Cs Ab.E 37 a0)] R := by
  unfold g10 sB
  refine Aq fun x210 h210 => ?_
  refine imp (Er (Ej (Aw (Im (E := Ab.E) (ty := 37) (l' := a0) _ Ab.nf rfl (by first | rfl | (simp (disch := first | decide | assumption) only [lk]))) (Aw (W0 _ _ Dc) Dc)) (Aag h210) rfl)) ?_
  refine imp Ai ?_
  refine An (fun _ => ?_) (fun _ => ?_)
  · exact fun hg => hR _ (Option.some.inj hg).symm _ _ (Vj (E := Ab.E) (ty := 37) (l := a0) h0 rfl (by first | rfl | (simp (disch := first | decide | assumption) only [lk])))
  · exact fun hg => jD n  R  hR n _ hg (Az [(90000, 0)] rfl rfl rfl (Aj (Dz (E := Ab.E) (id := 0) (l' := a0) rfl rfl) (oR (oR (oR (oR A6))))) (A3 (Dy (E := Ab.E) (ty := 37) (l' := a0) rfl (show Al _ 0 = _ from (by first | rfl | (simp (disch := first | decide | assumption) only [lk])))) A0))
theorem Aey {n k id : Nat} {look : Nat → Option Bi} {args : List AV} {l0 : List Ab} {a0 : List Ab} {t : U1} (h0 : a0 ≠ []) (hl : l0.length = a0.length) (hb : look id = Cs Ab.E 37 a0) (h : g10 n a0 = some t) (ha : aX (less look id) 6 args [(AV.fn 12 [])]) : D2 pg KK.gl look k 10 (B5 Ab.E id l0 :: args) (Vs Ab.E k t) [(k, some ⟨Ay Ab.E t, 37⟩), (id, none)] :=
  qG (fun _ => rfl) hl h0 hb ha (by
    have := gW (B5 Ab.E 0 a0) (AV.fn 12 []) _ _ (w5 n a0 h0 (Jn Ab.E 37 t) (fun r e u m h => by rw [e]; exact h) h)
    rw [Dx h0, C1 h0] at this
    exact this)
end Go.Proofs.YtbfabclpcamlnaaGreatDoor
