/- Plain functional programs out of the program's functions, with proofs that the functions compute them; printed by wip/Ext.lean.txt. -/
import Derived.Test.YtbbfpbngnkjkdaaDoorX1G
import Derived.Test.YtbbfpbngnkjkdaaDoorX1F1
import Derived.Test.YtbbfpbngnkjkdaaDoorX1F2
import Derived.Test.YtbbfpbngnkjkdaaDoorX1F3
set_option linter.unusedVariables false
set_option linter.unusedSimpArgs false
set_option maxRecDepth 100000
set_option maxHeartbeats 4000000
namespace Go.Proofs.YtbbfpbngnkjkdaaDoor
theorem cloneC22 {n : Nat} {look : Nat → Option ABlk} {l : List TTubeNode} {u : Unit} (h : roomO l.length 48 = some u) : PureD pg KK.gl look n 22 [lstA TTubeNode.E l] (ownV TTubeNode.E n l) [(n, ownB TTubeNode.E 40 l)] :=
  made_ownC (by simp [cleans, clean, encs_clean]) (F22_own _ _ (by
    unfold F22
    exact clone_ok (E := TTubeNode.E) rfl rfl h))
noncomputable def J43 (a1 : Int) (a2 : AV) (m : Mem) (R : AV → Mem → Prop) (z2 z4 : Int) (v17 : AV) : Prop :=

opP (opA pg (.slice 23 (.tmp 0) (some (.tmp 1)) none none) 23 [v17, (AV.sc (.int .i64 z4))] (mget m) 102) fun v28 =>
opN (opA pg (.call ⟨.builtin .copy, #[.tmp 0, .tmp 1], #[23, 22]⟩) 3 [v28, a2] (mget m) 104) m fun v29 m29 =>
ex_i64 v29 fun z30 =>
opP (opA pg (.slice 23 (.tmp 0) (some (.tmp 1)) none none) 23 [v17, (AV.sc (.int .i64 a1))] (mget m29) 107) fun v31 =>
callW pg KK.gl m29 109 50 [v31, (AV.sc (.int .i64 z2))] fun v32 m32 =>
exT0 v32 <|
retL R m32 [some v17]
noncomputable def J43n (a0 : AV) (a1 : Int) (a2 : AV) (m : Mem) (R : AV → Mem → Prop) (z2 z4 : Int) : Prop :=

opP (opA pg (.call ⟨.builtin .cap, #[.tmp 0], #[23]⟩) 3 [a0] (mget m) 20) fun v6 =>
ex_i64 v6 fun z7 =>
bif (decide ((IntKind.wrap .i64 (z4 + z2)) > z7)) then (
opP (opA pg (.slice 23 (.tmp 0) none (some (.tmp 1)) none) 23 [a0, (AV.sc (.int .i64 a1))] (mget m) 24) fun v8 =>
opN (opA pg (.call ⟨.builtin .append, #[.tmp 0, .tmp 1], #[23, 3]⟩) 23 [v8, (AV.sc (.int .i64 (IntKind.wrap .i64 ((IntKind.wrap .i64 (z4 + z2)) - a1))))] (mget m) 30) m fun v9 m9 =>
opP (opA pg (.slice 23 (.tmp 0) (some (.tmp 1)) none none) 23 [v9, (AV.sc (.int .i64 a1))] (mget m9) 34) fun v10 =>
opN (opA pg (.call ⟨.builtin .copy, #[.tmp 0, .tmp 1], #[23, 22]⟩) 3 [v10, a2] (mget m9) 36) m9 fun v11 m11 =>
ex_i64 v11 fun z12 =>
opM (opA pg (.slice 23 (.tmp 0) (some (.tmp 1)) none none) 23 [v9, (AV.sc (.int .i64 (IntKind.wrap .i64 (a1 + z2))))] (look' m11 (topId v9 ++ (topId (AV.sc (.int .i64 (IntKind.wrap .i64 (a1 + z2)))) ++ ([])))) 41) fun v13 d13 =>
opM (opA pg (.slice 23 (.tmp 0) (some (.tmp 1)) none none) 23 [a0, (AV.sc (.int .i64 a1))] (look' (mpushs m11 d13) (topId a0 ++ (topId (AV.sc (.int .i64 a1)) ++ ([])))) 44) fun v14 d14 =>
opM (opA pg (.call ⟨.builtin .copy, #[.tmp 0, .tmp 1], #[23, 23]⟩) 3 [v13, v14] (look' (mpushs (mpushs m11 d13) d14) (topId v13 ++ (topId v14 ++ ([])))) 45) fun v15 d15 =>
ex_i64 v15 fun z16 =>
chk (confOk [0, 0, 0, 6, 15, 0, 0, 96, 255] [⟨[], []⟩, ⟨[], []⟩, ⟨[], []⟩, ⟨[], []⟩, ⟨d13, (topId v9 ++ (topId (AV.sc (.int .i64 (IntKind.wrap .i64 (a1 + z2)))) ++ ([])))⟩, ⟨[], []⟩, ⟨[], []⟩, ⟨d14, (topId a0 ++ (topId (AV.sc (.int .i64 a1)) ++ ([])))⟩, ⟨d15, (topId v13 ++ (topId v14 ++ ([])))⟩]) (retL R (mpushs (mpushs (mpushs m11 d13) d14) d15) [some v9])) else (
opP (opA pg (.slice 23 (.tmp 0) none (some (.tmp 1)) none) 23 [a0, (AV.sc (.int .i64 (IntKind.wrap .i64 (z4 + z2))))] (mget m) 26) fun v17 =>
opP (opA pg (.slice 23 (.tmp 0) (some (.tmp 1)) none none) 23 [v17, (AV.sc (.int .i64 (IntKind.wrap .i64 (a1 + z2))))] (mget m) 33) fun v18 =>
callQ pg KK.gl m 49 [a2, v18] fun v19 =>
exB v19 fun b20 =>
bif (!b20) then (
opM (opA pg (.slice 23 (.tmp 0) (some (.tmp 1)) none none) 23 [v17, (AV.sc (.int .i64 (IntKind.wrap .i64 (a1 + z2))))] (look' m (topId v17 ++ (topId (AV.sc (.int .i64 (IntKind.wrap .i64 (a1 + z2)))) ++ ([])))) 103) fun v21 d21 =>
opM (opA pg (.slice 23 (.tmp 0) (some (.tmp 1)) none none) 23 [v17, (AV.sc (.int .i64 a1))] (look' (mpushs m d21) (topId v17 ++ (topId (AV.sc (.int .i64 a1)) ++ ([])))) 106) fun v22 d22 =>
opM (opA pg (.call ⟨.builtin .copy, #[.tmp 0, .tmp 1], #[23, 23]⟩) 3 [v21, v22] (look' (mpushs (mpushs m d21) d22) (topId v21 ++ (topId v22 ++ ([])))) 107) fun v23 d23 =>
ex_i64 v23 fun z24 =>
chk (confOk [0, 0, 0, 6, 15, 0, 0, 96, 255] [⟨[], []⟩, ⟨[], []⟩, ⟨[], []⟩, ⟨[], []⟩, ⟨d21, (topId v17 ++ (topId (AV.sc (.int .i64 (IntKind.wrap .i64 (a1 + z2)))) ++ ([])))⟩, ⟨[], []⟩, ⟨[], []⟩, ⟨d22, (topId v17 ++ (topId (AV.sc (.int .i64 a1)) ++ ([])))⟩, ⟨d23, (topId v21 ++ (topId v22 ++ ([])))⟩]) (opP (opA pg (.slice 23 (.tmp 0) (some (.tmp 1)) none none) 23 [v17, (AV.sc (.int .i64 a1))] (mget (mpushs (mpushs (mpushs m d21) d22) d23)) 110) fun v25 =>
opN (opA pg (.call ⟨.builtin .copy, #[.tmp 0, .tmp 1], #[23, 22]⟩) 3 [v25, a2] (mget (mpushs (mpushs (mpushs m d21) d22) d23)) 112) (mpushs (mpushs (mpushs m d21) d22) d23) fun v26 m26 =>
ex_i64 v26 fun z27 =>
retL R m26 [some v17])) else (
opP (opA pg (.slice 23 (.tmp 0) (some (.tmp 1)) none none) 23 [v17, (AV.sc (.int .i64 z4))] (mget m) 101) fun v28 =>
opN (opA pg (.call ⟨.builtin .copy, #[.tmp 0, .tmp 1], #[23, 22]⟩) 3 [v28, a2] (mget m) 103) m fun v29 m29 =>
ex_i64 v29 fun z30 =>
opP (opA pg (.slice 23 (.tmp 0) (some (.tmp 1)) none none) 23 [v17, (AV.sc (.int .i64 a1))] (mget m29) 106) fun v31 =>
callW pg KK.gl m29 108 50 [v31, (AV.sc (.int .i64 z2))] fun v32 m32 =>
exT0 v32 <|
retL R m32 [some v17]))
theorem J43_eq (a0 : AV) (a1 : Int) (a2 : AV) (m : Mem) (R : AV → Mem → Prop) : insTxt pg KK.gl 23 3 40 6 48 49 [(AV.sc (.int .i64 (0))), (AV.sc (.int .i64 (0))), (AV.sc (.int .i64 (0))), (AV.sc (.int .i64 (0))), (AV.sc (.int .i64 (0))), (AV.sc (.int .i64 (0)))] (J43 a1 a2 m R) a0 a1 a2 m R = F43n2 a0 a1 a2 m R := by kernel_rfl
theorem J43n_eq (a0 : AV) (a1 : Int) (a2 : AV) (m : Mem) (R : AV → Mem → Prop) : insTxt1 pg 23 40 6 48 [(AV.sc (.int .i64 (0))), (AV.sc (.int .i64 (0))), (AV.sc (.int .i64 (0))), (AV.sc (.int .i64 (0))), (AV.sc (.int .i64 (0))), (AV.sc (.int .i64 (0)))] (J43n a0 a1 a2 m R) a0 a1 a2 m R = F43n1 a0 a1 a2 m R := by kernel_rfl
theorem over43 : OverF pg 49 22 4 := ⟨⟨Tryd.f49, Tryd.func49, by kernel_rfl, by kernel_rfl, by kernel_rfl, by kernel_rfl⟩, ⟨40, _, by kernel_rfl, run_size (n := (tsize pg 40).getD 0) (by kernel_rfl)⟩⟩
theorem insa43 {l xs : List TTubeNode} {C k : Nat} (hC : l.length ≤ C) (hCm : C ≤ maxLen) (hne : l ≠ []) (hx : xs ≠ []) (hk : k ≤ l.length) (r1 : (l.length + xs.length) * 48 ≤ 140737488355328) (r2 : l.length + xs.length ≤ 4611686018427387904) (a0 : AV) (ha0 : a0 = .sl 0 0 TTubeNode.E.size l.length C true) (a1 : Int) (ha1 : a1 = (k : Int)) (a2 : AV) (ha2 : a2 = .sl 1 0 TTubeNode.E.size xs.length xs.length false) (m : Mem) (hm : m = [(0, some ⟨encs TTubeNode.E l ++ List.replicate ((C - l.length) * TTubeNode.E.size) .und, 40⟩), (1, some ⟨encs TTubeNode.E xs, 40⟩)]) : F43n2 a0 a1 a2 m (MutO TTubeNode.E 40 (l.take k ++ xs ++ l.drop k)) := by
  rw [← J43_eq]
  exact insert_ok (P := pg) (gl := KK.gl) (E := TTubeNode.E) (t := 23) (e := 40) (sz := 6) (by_ := 48) (fo := 49) (ty2 := 40) (i := k) (zs := [(AV.sc (.int .i64 (0))), (AV.sc (.int .i64 (0))), (AV.sc (.int .i64 (0))), (AV.sc (.int .i64 (0))), (AV.sc (.int .i64 (0))), (AV.sc (.int .i64 (0)))]) (l := l) (xs := xs) (C := C) (f := 0) (nt := 0) (kk := .i64) (by kernel_rfl) (by kernel_rfl) (by kernel_rfl) (by kernel_rfl) rfl rfl (by kernel_rfl) over43 hC hCm hne hx hk r1 r2 (MutO TTubeNode.E 40 (l.take k ++ xs ++ l.drop k)) (fun _ _ h => h) m hm a0 ha0 a1 ha1 a2 ha2 _
theorem insb43 {xs : List TTubeNode} (hx : xs ≠ []) (r1 : (0 + xs.length) * 48 ≤ 140737488355328) (r2 : 0 + xs.length ≤ 4611686018427387904) (a0 : AV) (ha0 : a0 = .lst 0 [] true) (a1 : Int) (ha1 : a1 = 0) (a2 : AV) (ha2 : a2 = .sl 0 0 TTubeNode.E.size xs.length xs.length false) (m : Mem) (hm : m = [(0, some ⟨encs TTubeNode.E xs, 40⟩)]) : F43n1 a0 a1 a2 m (MutO TTubeNode.E 40 xs) := by
  rw [← J43n_eq]
  exact insert_nil_ok (by kernel_rfl) (by kernel_rfl) rfl rfl hx r1 r2 _ (fun _ _ h => h) m hm a0 ha0 a1 ha1 a2 ha2 _
theorem ins43 {n id wid : Nat} {look : Nat → Option ABlk} {l0 l xs0 xs y : List TTubeNode} {i : Int} (hl : l0.length = l.length) (hb : look id = ownB TTubeNode.E 40 l) (hl2 : xs0.length = xs.length) (hb2 : look wid = some ⟨encs TTubeNode.E xs, 40⟩) (hid : id ≠ wid) (h : insO 48 l i xs = some y) : PureD pg KK.gl look n 43 [ownV TTubeNode.E id l0, intA i, blkV TTubeNode.E wid xs0] (ownV TTubeNode.E n y) [(n, ownB TTubeNode.E 40 y), (wid, none), (id, none)] :=
  ins_mk (fun _ => rfl) hl hb hl2 hb2 hid h (fun C k hC hCm hne hx hk r1 r2 => F43n2_call _ _ _ _ _ (insa43 hC hCm hne hx hk r1 r2 _ rfl _ rfl _ rfl _ rfl)) (fun hx r1 r2 => F43n1_call _ _ _ _ _ (insb43 hx r1 r2 _ rfl _ rfl _ rfl _ rfl))
theorem gro23 {S : Nat} (h1 : 0 < S) (hr : S * 48 ≤ 281474976710656) (hr2 : S ≤ 4611686018427387904) : F33 AV.nils (S : Int) (MadeSl 0 6 0 S false ⟨rep [(AV.sc (.int .i64 (0))), (AV.sc (.int .i64 (0))), (AV.sc (.int .i64 (0))), (AV.sc (.int .i64 (0))), (AV.sc (.int .i64 (0))), (AV.sc (.int .i64 (0)))] S, 40⟩) := by
  unfold F33
  have h0 : decide ((S : Int) < 0) = false := decide_eq_false (by omega)
  rw [h0, cond_false]
  refine opP_of (v := intA 0) (by kernel_rfl) ?_
  refine ex_i64_b ?_
  refine opP_of (v := intA 0) rfl ?_
  refine ex_i64_b ?_
  have w1 : IntKind.wrap .i64 ((0 : Int) - 0) = 0 := by decide
  have w2 : IntKind.wrap .i64 ((S : Int) - IntKind.wrap .i64 ((0 : Int) - 0)) = (S : Int) := by rw [w1, wrap64 (by omega) (by omega)]; omega
  rw [w2]
  have h2 : decide ((S : Int) > 0) = true := decide_eq_true (by omega)
  rw [h2, cond_true]
  refine opP_of (v := intA 0) (by kernel_rfl) ?_
  refine ex_i64_b ?_
  refine opP_of (v := .nils) (by kernel_rfl) ?_
  refine opN_of (v := .sl 18 0 6 S S false) (d := [(18, some ⟨rep [(AV.sc (.int .i64 (0))), (AV.sc (.int .i64 (0))), (AV.sc (.int .i64 (0))), (AV.sc (.int .i64 (0))), (AV.sc (.int .i64 (0))), (AV.sc (.int .i64 (0)))] S, 40⟩)]) ?_ ?_
  · exact opA_append.trans <| growA_ok (e := 40) (sz := 6) (by_ := 48) (zs := [(AV.sc (.int .i64 (0))), (AV.sc (.int .i64 (0))), (AV.sc (.int .i64 (0))), (AV.sc (.int .i64 (0))), (AV.sc (.int .i64 (0))), (AV.sc (.int .i64 (0)))]) (k := .i64) (by kernel_rfl) (by kernel_rfl) (by kernel_rfl) (by kernel_rfl) (by kernel_rfl) rfl rfl h1 hr hr2
  refine opP_of (v := intA 0) rfl ?_
  refine ex_i64_b ?_
  refine opP_of (v := .sl 18 0 6 0 S false) ?_ ?_
  · exact (opA_slice3 (e := 40) (sz := 6) (yt := 0) (y := .und) (z := .und) (by kernel_rfl) (by kernel_rfl)).2.1.trans (slcS_z h1)
  exact ⟨18, rfl, rfl⟩
theorem gro23z : F33 AV.nils 0 (fun u m => freeze (mget m) 6 u = some .nils) := by
  unfold F33
  have h0 : decide ((0 : Int) < 0) = false := by decide
  rw [h0, cond_false]
  refine opP_of (v := intA 0) (by kernel_rfl) ?_
  refine ex_i64_b ?_
  refine opP_of (v := intA 0) rfl ?_
  refine ex_i64_b ?_
  have h2 : decide (IntKind.wrap .i64 ((0 : Int) - IntKind.wrap .i64 ((0 : Int) - 0)) > 0) = false := by decide
  rw [h2, cond_false]
  exact (rfl : freeze (mget []) 6 AV.nils = some AV.nils)
theorem catF23 {L : List (List TTubeNode)} {y : List TTubeNode} (h : catO 48 L = some y) : F23 (lstA (lstE TTubeNode.E) L) (MadeO TTubeNode.E 40 y) := by
  obtain ⟨rfl, hL, hr, hr2⟩ := catO_some h
  have hz : ([(AV.sc (.int .i64 (0))), (AV.sc (.int .i64 (0))), (AV.sc (.int .i64 (0))), (AV.sc (.int .i64 (0))), (AV.sc (.int .i64 (0))), (AV.sc (.int .i64 (0)))] : List AV).length = TTubeNode.E.size := rfl
  unfold F23
  refine opP_of (v := intA L.length) rfl ?_
  refine ex_i64_b ?_
  have hcl : clean (lstA (lstE TTubeNode.E) L) = true := lstA_clean _ _
  refine L23_0 _ (σ := Nat) (fun k => k ≤ L.length) (fun _ => lstA (lstE TTubeNode.E) L) (fun _ => AV.nils) (fun k => ((L.take k).flatten.length : Int)) (fun _ => lstA (lstE TTubeNode.E) L) (fun _ => (L.length : Int)) (fun k => (k : Int)) (fun _ => []) (fun k => L.length - k) ?_ 0 (Nat.zero_le _)
    (weak_of rfl (okE_cons rfl hcl (okE_cons rfl rfl (okE_cons rfl rfl (okE_cons rfl hcl (okE_cons rfl rfl (okE_cons rfl rfl trivial)))))))
  intro k hk
  show B23_0 (lstA (lstE TTubeNode.E) L) AV.nils ((L.take k).flatten.length : Int) (lstA (lstE TTubeNode.E) L) (L.length : Int) (k : Int) [] _ _
  have hfk := flat_le (L := L) k
  unfold B23_0
  refine cond_of (fun hc => ?_) (fun hc => ?_)
  · have hlt : k < L.length := by have := of_decide_eq_true hc; omega
    have hfk1 := flat_le (L := L) (k + 1)
    have hsn := flat_snoc hlt
    have hln : (L.take (k + 1)).flatten.length = (L.take k).flatten.length + (L[k]).length := by rw [hsn, List.length_append]
    refine opP_of (idxS_lst (E := lstE TTubeNode.E) rfl L false k hlt) ?_
    refine opP_of (ldS_ept (x := lstA TTubeNode.E L[k]) rfl) ?_
    refine opP_of (v := intA (L[k]).length) rfl ?_
    refine ex_i64_b ?_
    have w1 : IntKind.wrap .i64 (((L.take k).flatten.length : Int) + ((L[k]).length : Int)) = ((L.take (k + 1)).flatten.length : Int) := by rw [wrap64 (by omega) (by omega)]; omega
    have w2 : IntKind.wrap .i64 ((k : Int) + 1) = ((k + 1 : Nat) : Int) := by rw [wrap64 (by omega) (by omega)]; omega
    rw [w1, w2]
    refine cond_of (fun hc => by have := of_decide_eq_true hc; omega) (fun _ => ?_)
    exact ⟨k + 1, hlt, by omega, weak_of rfl (okE_cons rfl hcl (okE_cons rfl rfl (okE_cons rfl rfl (okE_cons rfl hcl (okE_cons rfl rfl (okE_cons rfl rfl trivial))))))⟩
  · have hkk : k = L.length := by have := of_decide_eq_false hc; omega
    subst hkk
    rw [List.take_length]
    generalize hS : L.flatten.length = S at *
    have hlenS : lenS (lstA (lstE TTubeNode.E) L) = some (intA L.length, []) := rfl
    by_cases h0 : S = 0
    · subst h0
      have hFl : L.flatten = [] := List.eq_nil_of_length_eq_zero hS
      have hel : ∀ (k : Nat) (h : k < L.length), L[k] = [] := fun k h => by
        have := List.flatten_eq_nil_iff.1 hFl L[k] (List.getElem_mem h); exact this
      refine callW_says (v := .nils) (says_of_same rfl rfl (F33_own _ _ _ gro23z)) ?_
      refine opP_of hlenS ?_
      refine ex_i64_b ?_
      refine L23_1 _ (σ := Nat) (fun k => k ≤ L.length) (fun _ => AV.nils) (fun _ => AV.nils) (fun _ => lstA (lstE TTubeNode.E) L) (fun _ => (L.length : Int)) (fun k => (k : Int)) (fun _ => []) (fun k => L.length - k) ?_ 0 (Nat.zero_le _)
        (weak_of rfl (okE_cons rfl rfl (okE_cons rfl rfl (okE_cons rfl hcl (okE_cons rfl rfl (okE_cons rfl rfl trivial))))))
      intro k hk
      show B23_1 AV.nils AV.nils (lstA (lstE TTubeNode.E) L) (L.length : Int) (k : Int) [] _ _
      unfold B23_1
      refine cond_of (fun hc => ?_) (fun hc => ?_)
      · have hlt : k < L.length := by have := of_decide_eq_true hc; omega
        refine opP_of (idxS_lst (E := lstE TTubeNode.E) rfl L false k hlt) ?_
        refine opP_of (ldS_ept (x := lstA TTubeNode.E L[k]) rfl) ?_
        rw [hel k hlt]
        refine opN_of (app_zeroN (E := TTubeNode.E)) ?_
        have w2 : IntKind.wrap .i64 ((k : Int) + 1) = ((k + 1 : Nat) : Int) := by rw [wrap64 (by omega) (by omega)]; omega
        rw [w2]
        exact ⟨k + 1, hlt, by omega, weak_of rfl (okE_cons rfl rfl (okE_cons rfl rfl (okE_cons rfl hcl (okE_cons rfl rfl (okE_cons rfl rfl trivial)))))⟩
      · rw [hFl]; exact made_nils_pf
    · refine callW_D (made_of_own (n := 100002) (b := ⟨rep [(AV.sc (.int .i64 (0))), (AV.sc (.int .i64 (0))), (AV.sc (.int .i64 (0))), (AV.sc (.int .i64 (0))), (AV.sc (.int .i64 (0))), (AV.sc (.int .i64 (0)))] S, 40⟩) rfl (rep_clean rfl S) (F33_own _ _ _ (gro23 (by omega) hr hr2))) ?_
      refine opP_of hlenS ?_
      refine ex_i64_b ?_
      have hbc : ∀ k, cleans (encs TTubeNode.E (L.take k).flatten ++ rep [(AV.sc (.int .i64 (0))), (AV.sc (.int .i64 (0))), (AV.sc (.int .i64 (0))), (AV.sc (.int .i64 (0))), (AV.sc (.int .i64 (0))), (AV.sc (.int .i64 (0)))] (S - (L.take k).flatten.length)) = true := fun k => by rw [cleans_append, encs_clean, rep_clean rfl]; rfl
      refine L23_1 _ (σ := Nat) (fun k => k ≤ L.length) (fun _ => AV.nils) (fun k => .sl 90000 0 TTubeNode.E.size (L.take k).flatten.length S false) (fun _ => lstA (lstE TTubeNode.E) L) (fun _ => (L.length : Int)) (fun k => (k : Int)) (fun k => [(90000, some ⟨encs TTubeNode.E (L.take k).flatten ++ rep [(AV.sc (.int .i64 (0))), (AV.sc (.int .i64 (0))), (AV.sc (.int .i64 (0))), (AV.sc (.int .i64 (0))), (AV.sc (.int .i64 (0))), (AV.sc (.int .i64 (0)))] (S - (L.take k).flatten.length), 40⟩)]) (fun k => L.length - k) ?_ 0 (Nat.zero_le _)
        (weak_mem [(90000, 100002)] rfl rfl rfl (okW_cons (.inl (leV_refl _)) (okW_cons (.inl (leV_refl _)) (okW_cons (ent_lst _ _) (okW_cons (.inl (leV_refl _)) (okW_cons (.inl (leV_refl _)) okW_nil))))) (okB_cons (okB_cells (hbc 0) rfl) okB_nil'))
      intro k hk
      show B23_1 AV.nils (.sl 90000 0 TTubeNode.E.size (L.take k).flatten.length S false) (lstA (lstE TTubeNode.E) L) (L.length : Int) (k : Int) [(90000, some ⟨encs TTubeNode.E (L.take k).flatten ++ rep [(AV.sc (.int .i64 (0))), (AV.sc (.int .i64 (0))), (AV.sc (.int .i64 (0))), (AV.sc (.int .i64 (0))), (AV.sc (.int .i64 (0))), (AV.sc (.int .i64 (0)))] (S - (L.take k).flatten.length), 40⟩)] _ _
      unfold B23_1
      refine cond_of (fun hc => ?_) (fun hc => ?_)
      · have hlt : k < L.length := by have := of_decide_eq_true hc; omega
        have hfk1 := flat_le (L := L) (k + 1)
        have hsn := flat_snoc hlt
        have hln : (L.take (k + 1)).flatten.length = (L.take k).flatten.length + (L[k]).length := by rw [hsn, List.length_append]
        refine opP_of (idxS_lst (E := lstE TTubeNode.E) rfl L false k hlt) ?_
        refine opP_of (ldS_ept (x := lstA TTubeNode.E L[k]) rfl) ?_
        have w2 : IntKind.wrap .i64 ((k : Int) + 1) = ((k + 1 : Nat) : Int) := by rw [wrap64 (by omega) (by omega)]; omega
        rw [w2]
        obtain ⟨d, hd1, hd2⟩ := app_cap (E := TTubeNode.E) (look := mget [(90000, some ⟨encs TTubeNode.E (L.take k).flatten ++ rep [(AV.sc (.int .i64 (0))), (AV.sc (.int .i64 (0))), (AV.sc (.int .i64 (0))), (AV.sc (.int .i64 (0))), (AV.sc (.int .i64 (0))), (AV.sc (.int .i64 (0)))] (S - (L.take k).flatten.length), 40⟩)]) (e := 40) (by_ := 48) (n := 200006) (id := 90000) (ty := 40) (S := S) (xs := L[k]) hz rfl (by omega) hr hr2
        refine opN_of hd1 ?_
        have hb : mget (mpushs [(90000, some ⟨encs TTubeNode.E (L.take k).flatten ++ rep [(AV.sc (.int .i64 (0))), (AV.sc (.int .i64 (0))), (AV.sc (.int .i64 (0))), (AV.sc (.int .i64 (0))), (AV.sc (.int .i64 (0))), (AV.sc (.int .i64 (0)))] (S - (L.take k).flatten.length), 40⟩)] d) 90000 = some ⟨encs TTubeNode.E (L.take (k + 1)).flatten ++ rep [(AV.sc (.int .i64 (0))), (AV.sc (.int .i64 (0))), (AV.sc (.int .i64 (0))), (AV.sc (.int .i64 (0))), (AV.sc (.int .i64 (0))), (AV.sc (.int .i64 (0)))] (S - (L.take (k + 1)).flatten.length), 40⟩ := by
          rcases hd2 with rfl | ⟨rfl, he⟩
          · rw [hsn, List.length_append]; rfl
          · rw [hsn, he, List.append_nil]; rfl
        exact ⟨k + 1, hlt, by omega, weak_mem [(90000, 90000)] rfl rfl rfl (okW_cons (.inl (leV_refl _)) (okW_cons (.inl (by rw [hln]; exact leV_refl _)) (okW_cons (ent_lst _ _) (okW_cons (.inl (leV_refl _)) (okW_cons (.inl (leV_refl _)) okW_nil))))) (okB_cons (okB_cells (hbc (k + 1)) hb) okB_nil')⟩
      · have hkk : k = L.length := by have := of_decide_eq_false hc; omega
        subst hkk
        rw [List.take_length, hS, Nat.sub_self]
        refine .inr ⟨by rintro e; rw [e] at hS; exact h0 hS.symm, 90000, S, false, by rw [hS], ?_⟩
        simp [mget, rep]
theorem catS23 {n : Nat} {look : Nat → Option ABlk} {args : List AV} {L : List (List TTubeNode)} {y : List TTubeNode} (h : catO 48 L = some y) (hs : SnL look 6 args [lstA (lstE TTubeNode.E) L]) : PureD pg KK.gl look n 23 args (ownV TTubeNode.E n y) [(n, ownB TTubeNode.E 40 y)] := made_ownS (fun _ => rfl) hs (F23_own _ _ (catF23 h))
/- skyway/angle.Norm -/
theorem g59_ok (n : Nat) (a0 : Int) {t : ρ59} (R : AV → Mem → Prop) (hR : ∀ r : ρ59, t = r → ∀ u m, Ans ((intA r)) u m → R u m) : g59 n a0 = some t → F59 a0 R := by
  unfold g59 F59
  exact fun hg => ret1 (hR _ (Option.some.inj hg).symm) (fz_sc _ _)
theorem sg59 {n : Nat} {a0 : Int} {t : ρ59} (h : g59 n a0 = some t) : Says pg KK.gl 59 [(intA a0)] ((intA t)) :=
  says_of_own (by first | rfl | simp [cleans, clean, encs_clean, En.cln]) (by first | rfl | simp [cleans, clean, encs_clean, En.cln]) (F59_own a0 _ (g59_ok n a0 (Ans ((intA t))) (fun r e u m h => by rw [e]; exact h) h))
/- math.IsNaN -/
theorem g66_ok (n : Nat) (a0 : Nat) {t : ρ66} (R : AV → Mem → Prop) (hR : ∀ r : ρ66, t = r → ∀ u m, Ans ((boolA r)) u m → R u m) : g66 n a0 = some t → F66 a0 R := by
  unfold g66 F66
  refine fneq_s ?_
  exact fun hg => ret1 (hR _ (Option.some.inj hg).symm) (fz_sc _ _)
theorem sg66 {n : Nat} {a0 : Nat} {t : ρ66} (h : g66 n a0 = some t) : Says pg KK.gl 66 [(fltA a0)] ((boolA t)) :=
  says_of_own (by first | rfl | simp [cleans, clean, encs_clean, En.cln]) (by first | rfl | simp [cleans, clean, encs_clean, En.cln]) (F66_own a0 _ (g66_ok n a0 (Ans ((boolA t))) (fun r e u m h => by rw [e]; exact h) h))
/- math.Abs -/
theorem g70_ok (n : Nat) (a0 : Nat) {t : ρ70} (R : AV → Mem → Prop) (hR : ∀ r : ρ70, t = r → ∀ u m, Ans ((fltA r)) u m → R u m) : g70 n a0 = some t → F70 a0 R := by
  unfold g70 F70
  refine imp (callQ_ext (ext_bits _)) ?_
  refine imp ex_u64_b ?_
  refine iq (AV.sc (.int .u64 (bAndNot .u64 (a0 : Int) (9223372036854775808)))) (opA_bandNot _ _) ?_
  refine imp ex_u64_b ?_
  refine imp (callQ_ext (ext_frombits _)) ?_
  refine imp exF_b ?_
  exact fun hg => ret1 (hR _ (Option.some.inj hg).symm) (fz_sc _ _)
theorem sg70 {n : Nat} {a0 : Nat} {t : ρ70} (h : g70 n a0 = some t) : Says pg KK.gl 70 [(fltA a0)] ((fltA t)) :=
  says_of_own (by first | rfl | simp [cleans, clean, encs_clean, En.cln]) (by first | rfl | simp [cleans, clean, encs_clean, En.cln]) (F70_own a0 _ (g70_ok n a0 (Ans ((fltA t))) (fun r e u m h => by rw [e]; exact h) h))
/- math.IsInf -/
theorem g67_ok (n : Nat) (a0 : Nat) (a1 : Int) {t : ρ67} (R : AV → Mem → Prop) (hR : ∀ r : ρ67, t = r → ∀ u m, Ans ((boolA r)) u m → R u m) : g67 n a0 a1 = some t → F67 a0 a1 R := by
  unfold g67 F67
  refine cond_b (fun _ => ?_) (fun _ => ?_)
  · refine bind_b fun x4 h4 => ?_
    refine imp (callQ_says (sg70 h4)) ?_
    refine imp exF_b ?_
    refine fgtr_s ?_
    exact fun hg => ret1 (hR _ (Option.some.inj hg).symm) (fz_sc _ _)
  · refine cond_b (fun _ => ?_) (fun _ => ?_)
    · refine fneg_s ?_
      refine fgtr_s ?_
      exact fun hg => ret1 (hR _ (Option.some.inj hg).symm) (fz_sc _ _)
    · refine fgtr_s ?_
      exact fun hg => ret1 (hR _ (Option.some.inj hg).symm) (fz_sc _ _)
theorem sg67 {n : Nat} {a0 : Nat} {a1 : Int} {t : ρ67} (h : g67 n a0 a1 = some t) : Says pg KK.gl 67 [(fltA a0), (intA a1)] ((boolA t)) :=
  says_of_own (by first | rfl | simp [cleans, clean, encs_clean, En.cln]) (by first | rfl | simp [cleans, clean, encs_clean, En.cln]) (F67_own a0 a1 _ (g67_ok n a0 a1 (Ans ((boolA t))) (fun r e u m h => by rw [e]; exact h) h))
/- math.NaN -/
theorem g68_ok (n : Nat) {t : ρ68} (R : AV → Mem → Prop) (hR : ∀ r : ρ68, t = r → ∀ u m, Ans ((fltA r)) u m → R u m) : g68 n  = some t → F68  R := by
  unfold g68 F68
  refine imp (callQ_ext (ext_frombits _)) ?_
  refine imp exF_b ?_
  exact fun hg => ret1 (hR _ (Option.some.inj hg).symm) (fz_sc _ _)
theorem sg68 {n : Nat} {t : ρ68} (h : g68 n  = some t) : Says pg KK.gl 68 [] ((fltA t)) :=
  says_of_own (by first | rfl | simp [cleans, clean, encs_clean, En.cln]) (by first | rfl | simp [cleans, clean, encs_clean, En.cln]) (F68_own  _ (g68_ok n  (Ans ((fltA t))) (fun r e u m h => by rw [e]; exact h) h))
/- math.trigReduce -/
end Go.Proofs.YtbbfpbngnkjkdaaDoor
