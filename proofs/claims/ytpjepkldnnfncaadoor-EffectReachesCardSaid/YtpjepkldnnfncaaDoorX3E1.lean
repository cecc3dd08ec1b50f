/- Plain functional programs out of the program's functions, with proofs that the functions compute them; printed by wip/Ext.lean.txt. -/
import Derived.Test.YtpjepkldnnfncaaDoorX3G
import Derived.Test.YtpjepkldnnfncaaDoorX3F1
import Derived.Test.YtpjepkldnnfncaaDoorX3F2
set_option linter.unusedVariables false
set_option linter.unusedSimpArgs false
set_option maxRecDepth 100000
set_option maxHeartbeats 4000000
namespace Go.Proofs.YtpjepkldnnfncaaDoor
theorem cloneC32 {n : Nat} {look : Nat → Option ABlk} {l : List TTubeNode} {u : Unit} (h : roomO l.length 48 = some u) : PureD Tryd.prog KK.gl look n 32 [lstA TTubeNode.E l] (ownV TTubeNode.E n l) [(n, ownB TTubeNode.E 40 l)] :=
  made_ownC (by simp [cleans, clean, encs_clean]) (F32_own _ _ (by
    unfold F32
    exact clone_ok (E := TTubeNode.E) rfl rfl h))
theorem cloneS32 {n : Nat} {look : Nat → Option ABlk} {args : List AV} {l : List TTubeNode} {u : Unit} (h : roomO l.length 48 = some u) (hs : SnL look 6 args [lstA TTubeNode.E l]) : PureD Tryd.prog KK.gl look n 32 args (ownV TTubeNode.E n l) [(n, ownB TTubeNode.E 40 l)] :=
  made_ownS (fun _ => rfl) hs (F32_own _ _ (by
    unfold F32
    exact clone_ok (E := TTubeNode.E) rfl rfl h))
noncomputable def J55 (a1 : Int) (a2 : AV) (m : Mem) (R : AV → Mem → Prop) (z2 z4 : Int) (v17 : AV) : Prop :=

opP (opA Tryd.prog (.slice 23 (.tmp 0) (some (.tmp 1)) none none) 23 [v17, (AV.sc (.int .i64 z4))] (mget m) 102) fun v28 =>
opN (opA Tryd.prog (.call ⟨.builtin .copy, #[.tmp 0, .tmp 1], #[23, 22]⟩) 3 [v28, a2] (mget m) 104) m fun v29 m29 =>
ex_i64 v29 fun z30 =>
opP (opA Tryd.prog (.slice 23 (.tmp 0) (some (.tmp 1)) none none) 23 [v17, (AV.sc (.int .i64 a1))] (mget m29) 107) fun v31 =>
callW Tryd.prog KK.gl m29 109 61 [v31, (AV.sc (.int .i64 z2))] fun v32 m32 =>
exT0 v32 <|
retL R m32 [some v17]
noncomputable def J55n (a0 : AV) (a1 : Int) (a2 : AV) (m : Mem) (R : AV → Mem → Prop) (z2 z4 : Int) : Prop :=

opP (opA Tryd.prog (.call ⟨.builtin .cap, #[.tmp 0], #[23]⟩) 3 [a0] (mget m) 20) fun v6 =>
ex_i64 v6 fun z7 =>
bif (decide ((IntKind.wrap .i64 (z4 + z2)) > z7)) then (
opP (opA Tryd.prog (.slice 23 (.tmp 0) none (some (.tmp 1)) none) 23 [a0, (AV.sc (.int .i64 a1))] (mget m) 24) fun v8 =>
opN (opA Tryd.prog (.call ⟨.builtin .append, #[.tmp 0, .tmp 1], #[23, 3]⟩) 23 [v8, (AV.sc (.int .i64 (IntKind.wrap .i64 ((IntKind.wrap .i64 (z4 + z2)) - a1))))] (mget m) 30) m fun v9 m9 =>
opP (opA Tryd.prog (.slice 23 (.tmp 0) (some (.tmp 1)) none none) 23 [v9, (AV.sc (.int .i64 a1))] (mget m9) 34) fun v10 =>
opN (opA Tryd.prog (.call ⟨.builtin .copy, #[.tmp 0, .tmp 1], #[23, 22]⟩) 3 [v10, a2] (mget m9) 36) m9 fun v11 m11 =>
ex_i64 v11 fun z12 =>
opM (opA Tryd.prog (.slice 23 (.tmp 0) (some (.tmp 1)) none none) 23 [v9, (AV.sc (.int .i64 (IntKind.wrap .i64 (a1 + z2))))] (look' m11 (topId v9 ++ (topId (AV.sc (.int .i64 (IntKind.wrap .i64 (a1 + z2)))) ++ ([])))) 41) fun v13 d13 =>
opM (opA Tryd.prog (.slice 23 (.tmp 0) (some (.tmp 1)) none none) 23 [a0, (AV.sc (.int .i64 a1))] (look' (mpushs m11 d13) (topId a0 ++ (topId (AV.sc (.int .i64 a1)) ++ ([])))) 44) fun v14 d14 =>
opM (opA Tryd.prog (.call ⟨.builtin .copy, #[.tmp 0, .tmp 1], #[23, 23]⟩) 3 [v13, v14] (look' (mpushs (mpushs m11 d13) d14) (topId v13 ++ (topId v14 ++ ([])))) 45) fun v15 d15 =>
ex_i64 v15 fun z16 =>
chk (confOk [0, 0, 0, 6, 15, 0, 0, 96, 255] [⟨[], []⟩, ⟨[], []⟩, ⟨[], []⟩, ⟨[], []⟩, ⟨d13, (topId v9 ++ (topId (AV.sc (.int .i64 (IntKind.wrap .i64 (a1 + z2)))) ++ ([])))⟩, ⟨[], []⟩, ⟨[], []⟩, ⟨d14, (topId a0 ++ (topId (AV.sc (.int .i64 a1)) ++ ([])))⟩, ⟨d15, (topId v13 ++ (topId v14 ++ ([])))⟩]) (retL R (mpushs (mpushs (mpushs m11 d13) d14) d15) [some v9])) else (
opP (opA Tryd.prog (.slice 23 (.tmp 0) none (some (.tmp 1)) none) 23 [a0, (AV.sc (.int .i64 (IntKind.wrap .i64 (z4 + z2))))] (mget m) 26) fun v17 =>
opP (opA Tryd.prog (.slice 23 (.tmp 0) (some (.tmp 1)) none none) 23 [v17, (AV.sc (.int .i64 (IntKind.wrap .i64 (a1 + z2))))] (mget m) 33) fun v18 =>
callQ Tryd.prog KK.gl m 60 [a2, v18] fun v19 =>
exB v19 fun b20 =>
bif (!b20) then (
opM (opA Tryd.prog (.slice 23 (.tmp 0) (some (.tmp 1)) none none) 23 [v17, (AV.sc (.int .i64 (IntKind.wrap .i64 (a1 + z2))))] (look' m (topId v17 ++ (topId (AV.sc (.int .i64 (IntKind.wrap .i64 (a1 + z2)))) ++ ([])))) 103) fun v21 d21 =>
opM (opA Tryd.prog (.slice 23 (.tmp 0) (some (.tmp 1)) none none) 23 [v17, (AV.sc (.int .i64 a1))] (look' (mpushs m d21) (topId v17 ++ (topId (AV.sc (.int .i64 a1)) ++ ([])))) 106) fun v22 d22 =>
opM (opA Tryd.prog (.call ⟨.builtin .copy, #[.tmp 0, .tmp 1], #[23, 23]⟩) 3 [v21, v22] (look' (mpushs (mpushs m d21) d22) (topId v21 ++ (topId v22 ++ ([])))) 107) fun v23 d23 =>
ex_i64 v23 fun z24 =>
chk (confOk [0, 0, 0, 6, 15, 0, 0, 96, 255] [⟨[], []⟩, ⟨[], []⟩, ⟨[], []⟩, ⟨[], []⟩, ⟨d21, (topId v17 ++ (topId (AV.sc (.int .i64 (IntKind.wrap .i64 (a1 + z2)))) ++ ([])))⟩, ⟨[], []⟩, ⟨[], []⟩, ⟨d22, (topId v17 ++ (topId (AV.sc (.int .i64 a1)) ++ ([])))⟩, ⟨d23, (topId v21 ++ (topId v22 ++ ([])))⟩]) (opP (opA Tryd.prog (.slice 23 (.tmp 0) (some (.tmp 1)) none none) 23 [v17, (AV.sc (.int .i64 a1))] (mget (mpushs (mpushs (mpushs m d21) d22) d23)) 110) fun v25 =>
opN (opA Tryd.prog (.call ⟨.builtin .copy, #[.tmp 0, .tmp 1], #[23, 22]⟩) 3 [v25, a2] (mget (mpushs (mpushs (mpushs m d21) d22) d23)) 112) (mpushs (mpushs (mpushs m d21) d22) d23) fun v26 m26 =>
ex_i64 v26 fun z27 =>
retL R m26 [some v17])) else (
opP (opA Tryd.prog (.slice 23 (.tmp 0) (some (.tmp 1)) none none) 23 [v17, (AV.sc (.int .i64 z4))] (mget m) 101) fun v28 =>
opN (opA Tryd.prog (.call ⟨.builtin .copy, #[.tmp 0, .tmp 1], #[23, 22]⟩) 3 [v28, a2] (mget m) 103) m fun v29 m29 =>
ex_i64 v29 fun z30 =>
opP (opA Tryd.prog (.slice 23 (.tmp 0) (some (.tmp 1)) none none) 23 [v17, (AV.sc (.int .i64 a1))] (mget m29) 106) fun v31 =>
callW Tryd.prog KK.gl m29 108 61 [v31, (AV.sc (.int .i64 z2))] fun v32 m32 =>
exT0 v32 <|
retL R m32 [some v17]))
theorem J55_eq (a0 : AV) (a1 : Int) (a2 : AV) (m : Mem) (R : AV → Mem → Prop) : insTxt Tryd.prog KK.gl 23 3 40 6 48 60 [(AV.sc (.int .i64 (0))), (AV.sc (.int .i64 (0))), (AV.sc (.int .i64 (0))), (AV.sc (.int .i64 (0))), (AV.sc (.int .i64 (0))), (AV.sc (.int .i64 (0)))] (J55 a1 a2 m R) a0 a1 a2 m R = F55n2 a0 a1 a2 m R := by kernel_rfl
theorem J55n_eq (a0 : AV) (a1 : Int) (a2 : AV) (m : Mem) (R : AV → Mem → Prop) : insTxt1 Tryd.prog 23 40 6 48 [(AV.sc (.int .i64 (0))), (AV.sc (.int .i64 (0))), (AV.sc (.int .i64 (0))), (AV.sc (.int .i64 (0))), (AV.sc (.int .i64 (0))), (AV.sc (.int .i64 (0)))] (J55n a0 a1 a2 m R) a0 a1 a2 m R = F55n1 a0 a1 a2 m R := by kernel_rfl
theorem over55 : OverF Tryd.prog 60 22 4 := ⟨⟨Tryd.f60, Tryd.func60, by kernel_rfl, by kernel_rfl, by kernel_rfl, by kernel_rfl⟩, ⟨40, _, by kernel_rfl, run_size (n := (tsize Tryd.prog 40).getD 0) (by kernel_rfl)⟩⟩
theorem insa55 {l xs : List TTubeNode} {C k : Nat} (hC : l.length ≤ C) (hCm : C ≤ maxLen) (hne : l ≠ []) (hx : xs ≠ []) (hk : k ≤ l.length) (r1 : (l.length + xs.length) * 48 ≤ 140737488355328) (r2 : l.length + xs.length ≤ 4611686018427387904) (a0 : AV) (ha0 : a0 = .sl 0 0 TTubeNode.E.size l.length C true) (a1 : Int) (ha1 : a1 = (k : Int)) (a2 : AV) (ha2 : a2 = .sl 1 0 TTubeNode.E.size xs.length xs.length false) (m : Mem) (hm : m = [(0, some ⟨encs TTubeNode.E l ++ List.replicate ((C - l.length) * TTubeNode.E.size) .und, 40⟩), (1, some ⟨encs TTubeNode.E xs, 40⟩)]) : F55n2 a0 a1 a2 m (MutO TTubeNode.E 40 (l.take k ++ xs ++ l.drop k)) := by
  rw [← J55_eq]
  exact insert_ok (P := Tryd.prog) (gl := KK.gl) (E := TTubeNode.E) (t := 23) (e := 40) (sz := 6) (by_ := 48) (fo := 60) (ty2 := 40) (i := k) (zs := [(AV.sc (.int .i64 (0))), (AV.sc (.int .i64 (0))), (AV.sc (.int .i64 (0))), (AV.sc (.int .i64 (0))), (AV.sc (.int .i64 (0))), (AV.sc (.int .i64 (0)))]) (l := l) (xs := xs) (C := C) (f := 0) (nt := 0) (kk := .i64) (by kernel_rfl) (by kernel_rfl) (by kernel_rfl) (by kernel_rfl) rfl rfl (by kernel_rfl) over55 hC hCm hne hx hk r1 r2 (MutO TTubeNode.E 40 (l.take k ++ xs ++ l.drop k)) (fun _ _ h => h) m hm a0 ha0 a1 ha1 a2 ha2 _
theorem insb55 {xs : List TTubeNode} (hx : xs ≠ []) (r1 : (0 + xs.length) * 48 ≤ 140737488355328) (r2 : 0 + xs.length ≤ 4611686018427387904) (a0 : AV) (ha0 : a0 = .lst 0 [] true) (a1 : Int) (ha1 : a1 = 0) (a2 : AV) (ha2 : a2 = .sl 0 0 TTubeNode.E.size xs.length xs.length false) (m : Mem) (hm : m = [(0, some ⟨encs TTubeNode.E xs, 40⟩)]) : F55n1 a0 a1 a2 m (MutO TTubeNode.E 40 xs) := by
  rw [← J55n_eq]
  exact insert_nil_ok (by kernel_rfl) (by kernel_rfl) rfl rfl hx r1 r2 _ (fun _ _ h => h) m hm a0 ha0 a1 ha1 a2 ha2 _
theorem ins55 {n id wid : Nat} {look : Nat → Option ABlk} {l0 l xs0 xs y : List TTubeNode} {i : Int} (hl : l0.length = l.length) (hb : look id = ownB TTubeNode.E 40 l) (hl2 : xs0.length = xs.length) (hb2 : look wid = some ⟨encs TTubeNode.E xs, 40⟩) (hid : id ≠ wid) (h : insO 48 l i xs = some y) : PureD Tryd.prog KK.gl look n 55 [ownV TTubeNode.E id l0, intA i, blkV TTubeNode.E wid xs0] (ownV TTubeNode.E n y) [(n, ownB TTubeNode.E 40 y), (wid, none), (id, none)] :=
  ins_mk (fun _ => rfl) hl hb hl2 hb2 hid h (fun C k hC hCm hne hx hk r1 r2 => F55n2_call _ _ _ _ _ (insa55 hC hCm hne hx hk r1 r2 _ rfl _ rfl _ rfl _ rfl)) (fun hx r1 r2 => F55n1_call _ _ _ _ _ (insb55 hx r1 r2 _ rfl _ rfl _ rfl _ rfl))
theorem gro33 {S : Nat} (h1 : 0 < S) (hr : S * 48 ≤ 140737488355328) (hr2 : S ≤ 4611686018427387904) : F46 AV.nils (S : Int) (MadeSl 0 6 0 S false ⟨rep [(AV.sc (.int .i64 (0))), (AV.sc (.int .i64 (0))), (AV.sc (.int .i64 (0))), (AV.sc (.int .i64 (0))), (AV.sc (.int .i64 (0))), (AV.sc (.int .i64 (0)))] S, 40⟩) := by
  unfold F46
  have h0 : decide ((S : Int) < 0) = false := decide_eq_false (by omega)
  rw [h0, cond_false]
  refine opP_of (v := intA 0) (by kernel_rfl) ?_
  refine ex_i64_b ?_
  refine opP_of (v := intA 0) rfl ?_
  refine ex_i64_b ?_
  have w1 : IntKind.wrap .i64 ((0 : Int) - 0) = 0 := by decide
  have w2 : IntKind.wrap .i64 ((S : Int) - IntKind.wrap .i64 ((0 : Int) - 0)) = (S : Int) := by rw [w1, wrap64 (by omega) (by omega)]; omega
  rw [w2]
  have h2 : decide ((S : Int) > 0) = true := decide_eq_true (by omega)
  rw [h2, cond_true]
  refine opP_of (v := intA 0) (by kernel_rfl) ?_
  refine ex_i64_b ?_
  refine opP_of (v := .nils) (by kernel_rfl) ?_
  refine opN_of (v := .sl 18 0 6 S S false) (d := [(18, some ⟨rep [(AV.sc (.int .i64 (0))), (AV.sc (.int .i64 (0))), (AV.sc (.int .i64 (0))), (AV.sc (.int .i64 (0))), (AV.sc (.int .i64 (0))), (AV.sc (.int .i64 (0)))] S, 40⟩)]) ?_ ?_
  · exact opA_append.trans <| growA_ok (e := 40) (sz := 6) (by_ := 48) (zs := [(AV.sc (.int .i64 (0))), (AV.sc (.int .i64 (0))), (AV.sc (.int .i64 (0))), (AV.sc (.int .i64 (0))), (AV.sc (.int .i64 (0))), (AV.sc (.int .i64 (0)))]) (k := .i64) (by kernel_rfl) (by kernel_rfl) (by kernel_rfl) (by kernel_rfl) (by kernel_rfl) rfl rfl h1 hr hr2
  refine opP_of (v := intA 0) rfl ?_
  refine ex_i64_b ?_
  refine opP_of (v := .sl 18 0 6 0 S false) ?_ ?_
  · exact (opA_slice3 (e := 40) (sz := 6) (yt := 0) (y := .und) (z := .und) (by kernel_rfl) (by kernel_rfl)).2.1.trans (slcS_z h1)
  exact ⟨18, rfl, rfl⟩
theorem gro33z : F46 AV.nils 0 (fun u m => freeze (mget m) 6 u = some .nils) := by
  unfold F46
  have h0 : decide ((0 : Int) < 0) = false := by decide
  rw [h0, cond_false]
  refine opP_of (v := intA 0) (by kernel_rfl) ?_
  refine ex_i64_b ?_
  refine opP_of (v := intA 0) rfl ?_
  refine ex_i64_b ?_
  have h2 : decide (IntKind.wrap .i64 ((0 : Int) - IntKind.wrap .i64 ((0 : Int) - 0)) > 0) = false := by decide
  rw [h2, cond_false]
  exact (rfl : freeze (mget []) 6 AV.nils = some AV.nils)
theorem catF33 {L : List (List TTubeNode)} {y : List TTubeNode} (h : catO 48 L = some y) : F33 (lstA (lstE TTubeNode.E) L) (MadeO TTubeNode.E 40 y) := by
  obtain ⟨rfl, hL, hr, hr2⟩ := catO_some h
  have hz : ([(AV.sc (.int .i64 (0))), (AV.sc (.int .i64 (0))), (AV.sc (.int .i64 (0))), (AV.sc (.int .i64 (0))), (AV.sc (.int .i64 (0))), (AV.sc (.int .i64 (0)))] : List AV).length = TTubeNode.E.size := rfl
  unfold F33
  refine opP_of (v := intA L.length) rfl ?_
  refine ex_i64_b ?_
  have hcl : clean (lstA (lstE TTubeNode.E) L) = true := lstA_clean _ _
  refine L33_0 _ (σ := Nat) (fun k => k ≤ L.length) (fun _ => lstA (lstE TTubeNode.E) L) (fun _ => AV.nils) (fun k => ((L.take k).flatten.length : Int)) (fun _ => lstA (lstE TTubeNode.E) L) (fun _ => (L.length : Int)) (fun k => (k : Int)) (fun _ => []) (fun k => L.length - k) ?_ 0 (Nat.zero_le _)
    (weak_of rfl (okE_cons rfl hcl (okE_cons rfl rfl (okE_cons rfl rfl (okE_cons rfl hcl (okE_cons rfl rfl (okE_cons rfl rfl trivial)))))))
  intro k hk
  show B33_0 (lstA (lstE TTubeNode.E) L) AV.nils ((L.take k).flatten.length : Int) (lstA (lstE TTubeNode.E) L) (L.length : Int) (k : Int) [] _ _
  have hfk := flat_le (L := L) k
  unfold B33_0
  refine cond_of (fun hc => ?_) (fun hc => ?_)
  · have hlt : k < L.length := by have := of_decide_eq_true hc; omega
    have hfk1 := flat_le (L := L) (k + 1)
    have hsn := flat_snoc hlt
    have hln : (L.take (k + 1)).flatten.length = (L.take k).flatten.length + (L[k]).length := by rw [hsn, List.length_append]
    refine opP_of (idxS_lst (E := lstE TTubeNode.E) rfl L false k hlt) ?_
    refine opP_of (ldS_ept (x := lstA TTubeNode.E L[k]) rfl) ?_
    refine opP_of (v := intA (L[k]).length) rfl ?_
    refine ex_i64_b ?_
    have w1 : IntKind.wrap .i64 (((L.take k).flatten.length : Int) + ((L[k]).length : Int)) = ((L.take (k + 1)).flatten.length : Int) := by rw [wrap64 (by omega) (by omega)]; omega
    have w2 : IntKind.wrap .i64 ((k : Int) + 1) = ((k + 1 : Nat) : Int) := by rw [wrap64 (by omega) (by omega)]; omega
    rw [w1, w2]
    refine cond_of (fun hc => by have := of_decide_eq_true hc; omega) (fun _ => ?_)
    exact ⟨k + 1, hlt, by omega, weak_of rfl (okE_cons rfl hcl (okE_cons rfl rfl (okE_cons rfl rfl (okE_cons rfl hcl (okE_cons rfl rfl (okE_cons rfl rfl trivial))))))⟩
  · have hkk : k = L.length := by have := of_decide_eq_false hc; omega
    subst hkk
    rw [List.take_length]
    generalize hS : L.flatten.length = S at *
    have hlenS : lenS (lstA (lstE TTubeNode.E) L) = some (intA L.length, []) := rfl
    by_cases h0 : S = 0
    · subst h0
      have hFl : L.flatten = [] := List.eq_nil_of_length_eq_zero hS
      have hel : ∀ (k : Nat) (h : k < L.length), L[k] = [] := fun k h => by
        have := List.flatten_eq_nil_iff.1 hFl L[k] (List.getElem_mem h); exact this
      refine callW_says (v := .nils) (says_of_same rfl rfl (F46_own _ _ _ gro33z)) ?_
      refine opP_of hlenS ?_
      refine ex_i64_b ?_
      refine L33_1 _ (σ := Nat) (fun k => k ≤ L.length) (fun _ => AV.nils) (fun _ => AV.nils) (fun _ => lstA (lstE TTubeNode.E) L) (fun _ => (L.length : Int)) (fun k => (k : Int)) (fun _ => []) (fun k => L.length - k) ?_ 0 (Nat.zero_le _)
        (weak_of rfl (okE_cons rfl rfl (okE_cons rfl rfl (okE_cons rfl hcl (okE_cons rfl rfl (okE_cons rfl rfl trivial))))))
      intro k hk
      show B33_1 AV.nils AV.nils (lstA (lstE TTubeNode.E) L) (L.length : Int) (k : Int) [] _ _
      unfold B33_1
      refine cond_of (fun hc => ?_) (fun hc => ?_)
      · have hlt : k < L.length := by have := of_decide_eq_true hc; omega
        refine opP_of (idxS_lst (E := lstE TTubeNode.E) rfl L false k hlt) ?_
        refine opP_of (ldS_ept (x := lstA TTubeNode.E L[k]) rfl) ?_
        rw [hel k hlt]
        refine opN_of (app_zeroN (E := TTubeNode.E)) ?_
        have w2 : IntKind.wrap .i64 ((k : Int) + 1) = ((k + 1 : Nat) : Int) := by rw [wrap64 (by omega) (by omega)]; omega
        rw [w2]
        exact ⟨k + 1, hlt, by omega, weak_of rfl (okE_cons rfl rfl (okE_cons rfl rfl (okE_cons rfl hcl (okE_cons rfl rfl (okE_cons rfl rfl trivial)))))⟩
      · rw [hFl]; exact made_nils_pf
    · refine callW_D (made_of_own (n := 100002) (b := ⟨rep [(AV.sc (.int .i64 (0))), (AV.sc (.int .i64 (0))), (AV.sc (.int .i64 (0))), (AV.sc (.int .i64 (0))), (AV.sc (.int .i64 (0))), (AV.sc (.int .i64 (0)))] S, 40⟩) rfl (rep_clean rfl S) (F46_own _ _ _ (gro33 (by omega) hr hr2))) ?_
      refine opP_of hlenS ?_
      refine ex_i64_b ?_
      have hbc : ∀ k, cleans (encs TTubeNode.E (L.take k).flatten ++ rep [(AV.sc (.int .i64 (0))), (AV.sc (.int .i64 (0))), (AV.sc (.int .i64 (0))), (AV.sc (.int .i64 (0))), (AV.sc (.int .i64 (0))), (AV.sc (.int .i64 (0)))] (S - (L.take k).flatten.length)) = true := fun k => by rw [cleans_append, encs_clean, rep_clean rfl]; rfl
      refine L33_1 _ (σ := Nat) (fun k => k ≤ L.length) (fun _ => AV.nils) (fun k => .sl 90000 0 TTubeNode.E.size (L.take k).flatten.length S false) (fun _ => lstA (lstE TTubeNode.E) L) (fun _ => (L.length : Int)) (fun k => (k : Int)) (fun k => [(90000, some ⟨encs TTubeNode.E (L.take k).flatten ++ rep [(AV.sc (.int .i64 (0))), (AV.sc (.int .i64 (0))), (AV.sc (.int .i64 (0))), (AV.sc (.int .i64 (0))), (AV.sc (.int .i64 (0))), (AV.sc (.int .i64 (0)))] (S - (L.take k).flatten.length), 40⟩)]) (fun k => L.length - k) ?_ 0 (Nat.zero_le _)
        (weak_mem [(90000, 100002)] rfl rfl rfl (okW_cons (.inl (leV_refl _)) (okW_cons (.inl (leV_refl _)) (okW_cons (ent_lst _ _) (okW_cons (.inl (leV_refl _)) (okW_cons (.inl (leV_refl _)) okW_nil))))) (okB_cons (okB_cells (hbc 0) rfl) okB_nil'))
      intro k hk
      show B33_1 AV.nils (.sl 90000 0 TTubeNode.E.size (L.take k).flatten.length S false) (lstA (lstE TTubeNode.E) L) (L.length : Int) (k : Int) [(90000, some ⟨encs TTubeNode.E (L.take k).flatten ++ rep [(AV.sc (.int .i64 (0))), (AV.sc (.int .i64 (0))), (AV.sc (.int .i64 (0))), (AV.sc (.int .i64 (0))), (AV.sc (.int .i64 (0))), (AV.sc (.int .i64 (0)))] (S - (L.take k).flatten.length), 40⟩)] _ _
      unfold B33_1
      refine cond_of (fun hc => ?_) (fun hc => ?_)
      · have hlt : k < L.length := by have := of_decide_eq_true hc; omega
        have hfk1 := flat_le (L := L) (k + 1)
        have hsn := flat_snoc hlt
        have hln : (L.take (k + 1)).flatten.length = (L.take k).flatten.length + (L[k]).length := by rw [hsn, List.length_append]
        refine opP_of (idxS_lst (E := lstE TTubeNode.E) rfl L false k hlt) ?_
        refine opP_of (ldS_ept (x := lstA TTubeNode.E L[k]) rfl) ?_
        have w2 : IntKind.wrap .i64 ((k : Int) + 1) = ((k + 1 : Nat) : Int) := by rw [wrap64 (by omega) (by omega)]; omega
        rw [w2]
        obtain ⟨d, hd1, hd2⟩ := app_cap (E := TTubeNode.E) (look := mget [(90000, some ⟨encs TTubeNode.E (L.take k).flatten ++ rep [(AV.sc (.int .i64 (0))), (AV.sc (.int .i64 (0))), (AV.sc (.int .i64 (0))), (AV.sc (.int .i64 (0))), (AV.sc (.int .i64 (0))), (AV.sc (.int .i64 (0)))] (S - (L.take k).flatten.length), 40⟩)]) (e := 40) (by_ := 48) (n := 200006) (id := 90000) (ty := 40) (S := S) (xs := L[k]) hz rfl (by omega) hr hr2
        refine opN_of hd1 ?_
        have hb : mget (mpushs [(90000, some ⟨encs TTubeNode.E (L.take k).flatten ++ rep [(AV.sc (.int .i64 (0))), (AV.sc (.int .i64 (0))), (AV.sc (.int .i64 (0))), (AV.sc (.int .i64 (0))), (AV.sc (.int .i64 (0))), (AV.sc (.int .i64 (0)))] (S - (L.take k).flatten.length), 40⟩)] d) 90000 = some ⟨encs TTubeNode.E (L.take (k + 1)).flatten ++ rep [(AV.sc (.int .i64 (0))), (AV.sc (.int .i64 (0))), (AV.sc (.int .i64 (0))), (AV.sc (.int .i64 (0))), (AV.sc (.int .i64 (0))), (AV.sc (.int .i64 (0)))] (S - (L.take (k + 1)).flatten.length), 40⟩ := by
          rcases hd2 with rfl | ⟨rfl, he⟩
          · rw [hsn, List.length_append]; rfl
          · rw [hsn, he, List.append_nil]; rfl
        exact ⟨k + 1, hlt, by omega, weak_mem [(90000, 90000)] rfl rfl rfl (okW_cons (.inl (leV_refl _)) (okW_cons (.inl (by rw [hln]; exact leV_refl _)) (okW_cons (ent_lst _ _) (okW_cons (.inl (leV_refl _)) (okW_cons (.inl (leV_refl _)) okW_nil))))) (okB_cons (okB_cells (hbc (k + 1)) hb) okB_nil')⟩
      · have hkk : k = L.length := by have := of_decide_eq_false hc; omega
        subst hkk
        rw [List.take_length, hS, Nat.sub_self]
        refine .inr ⟨by rintro e; rw [e] at hS; exact h0 hS.symm, 90000, S, false, by rw [hS], ?_⟩
        simp [mget, rep]
theorem catC33 {n : Nat} {look : Nat → Option ABlk} {L : List (List TTubeNode)} {y : List TTubeNode} (h : catO 48 L = some y) : PureD Tryd.prog KK.gl look n 33 [lstA (lstE TTubeNode.E) L] (ownV TTubeNode.E n y) [(n, ownB TTubeNode.E 40 y)] := made_ownC (by simp [cleans, clean, encs_clean]) (F33_own _ _ (catF33 h))
theorem catS33 {n : Nat} {look : Nat → Option ABlk} {args : List AV} {L : List (List TTubeNode)} {y : List TTubeNode} (h : catO 48 L = some y) (hs : SnL look 6 args [lstA (lstE TTubeNode.E) L]) : PureD Tryd.prog KK.gl look n 33 args (ownV TTubeNode.E n y) [(n, ownB TTubeNode.E 40 y)] := made_ownS (fun _ => rfl) hs (F33_own _ _ (catF33 h))
/- skyway/skywaykeep3.level -/
theorem g21_ok (n : Nat) {t : ρ21} (R : AV → Mem → Prop) (hR : ∀ r : ρ21, t = r → ∀ u m, Ans ((lstA TTubeNode.E r)) u m → R u m) : g21 n  = some t → F21  R := by
  unfold g21 F21
  refine imp (opP_of (show _ = some ((AV.agg [(intA (0)), (intA (0)), (intA (0)), (intA (9000))]), []) from rfl)) ?_
  refine imp (opP_of (show _ = some ((AV.agg [(intA (0)), (intA (0)), (intA (0)), (intA (9000)), (intA (100)), (intA (50))]), []) from rfl)) ?_
  refine imp (storeW_cells (sz := 6) (by kernel_rfl) (by kernel_rfl) rfl rfl (cs := [(intA (0)), (intA (0)), (intA (0)), (intA (0)), (intA (0)), (intA (0))]) (cs' := [(intA (0)), (intA (0)), (intA (0)), (intA (9000)), (intA (100)), (intA (50))]) (ty := 40) (by first | rfl | (simp (disch := first | decide | assumption) only [mpushs_nil, mpushs_cons, mget_hd, mget_tl, mget_appW_o, mget_appW_n, mget_appW_e])) rfl rfl) ?_
  refine imp (opP_of (show _ = some ((AV.agg [(intA (0)), (intA (0)), (intA (0)), (intA (9000)), (intA (100)), (intA (50))]), []) from (ldA_ptr (b := ⟨[(intA (0)), (intA (0)), (intA (0)), (intA (9000)), (intA (100)), (intA (50))], 40⟩) (by first | rfl | (simp (disch := first | decide | assumption) only [mpushs_nil, mpushs_cons, mget_hd, mget_tl, mget_appW_o, mget_appW_n, mget_appW_e])) rfl))) ?_
  refine imp exA6_b ?_
  refine imp ex_i64_b ?_
  refine imp ex_i64_b ?_
  refine imp ex_i64_b ?_
  refine imp ex_i64_b ?_
  refine imp ex_i64_b ?_
  refine imp ex_i64_b ?_
  refine imp (opP_of (show _ = some ((AV.agg [(intA (0)), (intA (0)), (intA (0)), (intA (9000)), (intA (100)), (intA (50))]), []) from (ldA_ptr (b := ⟨[(intA (0)), (intA (0)), (intA (0)), (intA (9000)), (intA (100)), (intA (50))], 40⟩) (by first | rfl | (simp (disch := first | decide | assumption) only [mpushs_nil, mpushs_cons, mget_hd, mget_tl, mget_appW_o, mget_appW_n, mget_appW_e])) rfl))) ?_
  refine imp exA6_b ?_
  refine imp ex_i64_b ?_
  refine imp ex_i64_b ?_
  refine imp ex_i64_b ?_
  refine imp ex_i64_b ?_
  refine imp ex_i64_b ?_
  refine imp ex_i64_b ?_
  refine imp (opN_of (show _ = some ((blkV TTubeNode.E 17 ([(⟨(0), (0), (0), (9000), (100), (50)⟩ : TTubeNode), (⟨(100), (10000), (0), (9000), (100), (50)⟩ : TTubeNode)] : List TTubeNode)), [(17, some ⟨encs TTubeNode.E ([(⟨(0), (0), (0), (9000), (100), (50)⟩ : TTubeNode), (⟨(100), (10000), (0), (9000), (100), (50)⟩ : TTubeNode)] : List TTubeNode), 40⟩)]) from rfl)) ?_
  exact fun hg => ret1 (hR _ (Option.some.inj hg).symm) (fz_blk (E := TTubeNode.E) (ty := 40) (l' := ([(⟨(0), (0), (0), (9000), (100), (50)⟩ : TTubeNode), (⟨(100), (10000), (0), (9000), (100), (50)⟩ : TTubeNode)] : List TTubeNode)) _ rfl (by first | rfl | (simp (disch := first | decide | assumption) only [mpushs_nil, mpushs_cons, mget_hd, mget_tl, mget_appW_o, mget_appW_n, mget_appW_e])))
theorem sg21 {n : Nat} {t : ρ21} (h : g21 n  = some t) : Says Tryd.prog KK.gl 21 [] ((lstA TTubeNode.E t)) :=
  says_of_own (by first | rfl | simp [cleans, clean, encs_clean, En.cln]) (by first | rfl | simp [cleans, clean, encs_clean, En.cln]) (F21_own  _ (g21_ok n  (Ans ((lstA TTubeNode.E t))) (fun r e u m h => by rw [e]; exact h) h))
/- skyway/skywaykeep3.climbed -/
theorem g22_ok (n : Nat) (a0 : Int) {t : ρ22} (R : AV → Mem → Prop) (hR : ∀ r : ρ22, t = r → ∀ u m, Ans ((AV.agg (TClearance.E.enc r))) u m → R u m) : g22 n a0 = some t → F22 a0 R := by
  unfold g22 F22
  refine imp (opP_of (show _ = some ((AV.agg [(strA (⟨#[65, 49]⟩ : ByteArray)), (intA (0)), (intA a0), (strA (⟨#[]⟩ : ByteArray))]), []) from rfl)) ?_
  refine imp (storeW_cells (sz := 4) (by kernel_rfl) (by kernel_rfl) rfl rfl (cs := [(strA (⟨#[]⟩ : ByteArray)), (intA (0)), (intA (0)), (strA (⟨#[]⟩ : ByteArray))]) (cs' := [(strA (⟨#[65, 49]⟩ : ByteArray)), (intA (0)), (intA a0), (strA (⟨#[]⟩ : ByteArray))]) (ty := 25) (by first | rfl | (simp (disch := first | decide | assumption) only [mpushs_nil, mpushs_cons, mget_hd, mget_tl, mget_appW_o, mget_appW_n, mget_appW_e])) rfl rfl) ?_
  exact fun hg => ret1 (hR _ (Option.some.inj hg).symm) (fz_el (E := TClearance.E) _ (⟨(⟨#[65, 49]⟩ : ByteArray), (0), a0, (⟨#[]⟩ : ByteArray)⟩ : TClearance))
theorem sg22 {n : Nat} {a0 : Int} {t : ρ22} (h : g22 n a0 = some t) : Says Tryd.prog KK.gl 22 [(intA a0)] ((AV.agg (TClearance.E.enc t))) :=
  says_of_own (by first | rfl | simp [cleans, clean, encs_clean, En.cln]) (by first | rfl | simp [cleans, clean, encs_clean, En.cln]) (F22_own a0 _ (g22_ok n a0 (Ans ((AV.agg (TClearance.E.enc t)))) (fun r e u m h => by rw [e]; exact h) h))
/- skyway/skywaykeep3.jet -/
theorem g23_ok (n : Nat) {t : ρ23} (R : AV → Mem → Prop) (hR : ∀ r : ρ23, t = r → ∀ u m, Ans ((AV.agg (TKind.E.enc r))) u m → R u m) : g23 n  = some t → F23  R := by
  unfold g23 F23
  refine imp (opP_of (show _ = some ((AV.agg [(strA (⟨#[74, 69, 84]⟩ : ByteArray)), (intA (1)), (intA (40000)), (intA (50)), (intA (40)), (intA (50)), (intA (300))]), []) from rfl)) ?_
  refine imp (storeW_cells (sz := 7) (by kernel_rfl) (by kernel_rfl) rfl rfl (cs := [(strA (⟨#[]⟩ : ByteArray)), (intA (0)), (intA (0)), (intA (0)), (intA (0)), (intA (0)), (intA (0))]) (cs' := [(strA (⟨#[74, 69, 84]⟩ : ByteArray)), (intA (1)), (intA (40000)), (intA (50)), (intA (40)), (intA (50)), (intA (300))]) (ty := 27) (by first | rfl | (simp (disch := first | decide | assumption) only [mpushs_nil, mpushs_cons, mget_hd, mget_tl, mget_appW_o, mget_appW_n, mget_appW_e])) rfl rfl) ?_
  exact fun hg => ret1 (hR _ (Option.some.inj hg).symm) (fz_el (E := TKind.E) _ (⟨(⟨#[74, 69, 84]⟩ : ByteArray), (1), (40000), (50), (40), (50), (300)⟩ : TKind))
theorem sg23 {n : Nat} {t : ρ23} (h : g23 n  = some t) : Says Tryd.prog KK.gl 23 [] ((AV.agg (TKind.E.enc t))) :=
  says_of_own (by first | rfl | simp [cleans, clean, encs_clean, En.cln]) (by first | rfl | simp [cleans, clean, encs_clean, En.cln]) (F23_own  _ (g23_ok n  (Ans ((AV.agg (TKind.E.enc t)))) (fun r e u m h => by rw [e]; exact h) h))
/- skyway/plane.Check -/
theorem g30_ok (n : Nat) (a0 : TP) {t : ρ30} (R : AV → Mem → Prop) (hR : ∀ r : ρ30, t = r → ∀ u m, Ans ((intA r)) u m → R u m) : g30 n a0 = some t → F30 a0.X a0.Y R := by
  unfold g30 F30
  refine cond_b (fun _ => ?_) (fun _ => ?_)
  · exact fun hg => ret1 (hR _ (Option.some.inj hg).symm) (fz_sc _ _)
  · refine cond_b (fun _ => ?_) (fun _ => ?_)
    · exact fun hg => ret1 (hR _ (Option.some.inj hg).symm) (fz_sc _ _)
    · refine cond_b (fun _ => ?_) (fun _ => ?_)
      · exact fun hg => ret1 (hR _ (Option.some.inj hg).symm) (fz_sc _ _)
      · refine cond_b (fun _ => ?_) (fun _ => ?_)
        · exact fun hg => ret1 (hR _ (Option.some.inj hg).symm) (fz_sc _ _)
        · exact fun hg => ret1 (hR _ (Option.some.inj hg).symm) (fz_sc _ _)
theorem sg30 {n : Nat} {a0 : TP} {t : ρ30} (h : g30 n a0 = some t) : Says Tryd.prog KK.gl 30 [(AV.agg [(intA a0.X), (intA a0.Y)])] ((intA t)) :=
  says_of_own (by first | rfl | simp [cleans, clean, encs_clean, En.cln]) (by first | rfl | simp [cleans, clean, encs_clean, En.cln]) (F30_own a0.X a0.Y _ (g30_ok n a0 (Ans ((intA t))) (fun r e u m h => by rw [e]; exact h) h))
/- skyway/tube.Check -/
theorem B12_0_ok (n : Nat) (a0 : List TTubeNode) (c2 : Int) (c15 : Int) (v16 : Int) {t : (Int) ⊕ ρ12} (R : AV → Mem → Prop) (N0 : St → Prop) (hR : ∀ r : ρ12, t = (.inr r) → ∀ u m, Ans ((intA r)) u m → R u m) (hN0 : ∀ y : Int, t = (.inl y) → ∀ s' : St, Weak KK 86 0 s' (h12_0 (lstA TTubeNode.E a0) c2 (lstA TTubeNode.E a0) c15 y []) → N0 s') : S12_0 n a0 c2 c15 v16 = some t → B12_0 (lstA TTubeNode.E a0) c2 (lstA TTubeNode.E a0) c15 v16 [] R N0 := by
  unfold S12_0 B12_0
  refine cond_b (fun _ => ?_) (fun _ => ?_)
  · refine bind_b fun x4 h4 => ?_
    refine imp (opP_of (show _ = some ((AV.ept [(intA x4.Node_Time), (intA x4.Node_At_X), (intA x4.Node_At_Y), (intA x4.Node_Height), (intA x4.Radius), (intA x4.Band)] 0), []) from (idx_lst (E := TTubeNode.E) rfl h4))) ?_
    refine imp (opP_of (show _ = some ((AV.agg [(intA x4.Node_Time), (intA x4.Node_At_X), (intA x4.Node_At_Y), (intA x4.Node_Height), (intA x4.Radius), (intA x4.Band)]), []) from rfl)) ?_
    refine imp exA6_b ?_
    refine imp ex_i64_b ?_
    refine imp ex_i64_b ?_
    refine imp ex_i64_b ?_
    refine imp ex_i64_b ?_
    refine imp ex_i64_b ?_
    refine imp ex_i64_b ?_
    refine cond_b (fun _ => ?_) (fun _ => ?_)
    · exact fun hg => ret1 (hR _ (Option.some.inj hg).symm) (fz_sc _ _)
    · refine cond_b (fun _ => ?_) (fun _ => ?_)
      · exact fun hg => ret1 (hR _ (Option.some.inj hg).symm) (fz_sc _ _)
      · refine cond_b (fun _ => ?_) (fun _ => ?_)
        · refine bind_b fun x5 h5 => ?_
          refine imp (opP_of (show _ = some ((AV.ept [(intA x5.Node_Time), (intA x5.Node_At_X), (intA x5.Node_At_Y), (intA x5.Node_Height), (intA x5.Radius), (intA x5.Band)] 0), []) from (idx_lst (E := TTubeNode.E) rfl h5))) ?_
          refine imp (opP_of (show _ = some ((AV.ept [(intA x5.Node_Time), (intA x5.Node_At_X), (intA x5.Node_At_Y), (intA x5.Node_Height), (intA x5.Radius), (intA x5.Band)] 0), []) from rfl)) ?_
          refine imp (opP_of (show _ = some ((AV.ept [(intA x5.Node_Time), (intA x5.Node_At_X), (intA x5.Node_At_Y), (intA x5.Node_Height), (intA x5.Radius), (intA x5.Band)] 0), []) from rfl)) ?_
          refine imp (opP_of (show _ = some ((intA x5.Node_Time), []) from rfl)) ?_
          refine imp ex_i64_b ?_
          refine cond_b (fun _ => ?_) (fun _ => ?_)
          · exact fun hg => ret1 (hR _ (Option.some.inj hg).symm) (fz_sc _ _)
          · refine bind_b fun x6 h6 => ?_
            refine imp (callQ_says (sg30 h6)) ?_
            refine imp ex_i64_b ?_
            refine cond_b (fun _ => ?_) (fun _ => ?_)
            · exact fun hg => ret1 (hR _ (Option.some.inj hg).symm) (fz_sc _ _)
            · refine cond_b (fun _ => ?_) (fun _ => ?_)
              · exact fun hg => ret1 (hR _ (Option.some.inj hg).symm) (fz_sc _ _)
              · refine cond_b (fun _ => ?_) (fun _ => ?_)
                · exact fun hg => ret1 (hR _ (Option.some.inj hg).symm) (fz_sc _ _)
                · refine cond_b (fun _ => ?_) (fun _ => ?_)
                  · exact fun hg => ret1 (hR _ (Option.some.inj hg).symm) (fz_sc _ _)
                  · refine cond_b (fun _ => ?_) (fun _ => ?_)
                    · exact fun hg => ret1 (hR _ (Option.some.inj hg).symm) (fz_sc _ _)
                    · refine cond_b (fun _ => ?_) (fun _ => ?_)
                      · exact fun hg => ret1 (hR _ (Option.some.inj hg).symm) (fz_sc _ _)
                      · refine cond_b (fun _ => ?_) (fun _ => ?_)
                        · exact fun hg => ret1 (hR _ (Option.some.inj hg).symm) (fz_sc _ _)
                        · exact fun hg => hN0 _ (Option.some.inj hg).symm _ (weak_mem [] rfl rfl rfl (okW_cons (ent_lst (E := TTubeNode.E) _ false) (okW_cons (.inl (leV_refl _)) (okW_cons (ent_lst (E := TTubeNode.E) _ false) (okW_cons (.inl (leV_refl _)) (okW_cons (.inl (leV_refl _)) okW_nil))))) okB_nil')
        · refine bind_b fun x7 h7 => ?_
          refine imp (callQ_says (sg30 h7)) ?_
          refine imp ex_i64_b ?_
          refine cond_b (fun _ => ?_) (fun _ => ?_)
          · exact fun hg => ret1 (hR _ (Option.some.inj hg).symm) (fz_sc _ _)
          · refine cond_b (fun _ => ?_) (fun _ => ?_)
            · exact fun hg => ret1 (hR _ (Option.some.inj hg).symm) (fz_sc _ _)
            · refine cond_b (fun _ => ?_) (fun _ => ?_)
              · exact fun hg => ret1 (hR _ (Option.some.inj hg).symm) (fz_sc _ _)
              · refine cond_b (fun _ => ?_) (fun _ => ?_)
                · exact fun hg => ret1 (hR _ (Option.some.inj hg).symm) (fz_sc _ _)
                · refine cond_b (fun _ => ?_) (fun _ => ?_)
                  · exact fun hg => ret1 (hR _ (Option.some.inj hg).symm) (fz_sc _ _)
                  · refine cond_b (fun _ => ?_) (fun _ => ?_)
                    · exact fun hg => ret1 (hR _ (Option.some.inj hg).symm) (fz_sc _ _)
                    · refine cond_b (fun _ => ?_) (fun _ => ?_)
                      · exact fun hg => ret1 (hR _ (Option.some.inj hg).symm) (fz_sc _ _)
                      · exact fun hg => hN0 _ (Option.some.inj hg).symm _ (weak_mem [] rfl rfl rfl (okW_cons (ent_lst (E := TTubeNode.E) _ false) (okW_cons (.inl (leV_refl _)) (okW_cons (ent_lst (E := TTubeNode.E) _ false) (okW_cons (.inl (leV_refl _)) (okW_cons (.inl (leV_refl _)) okW_nil))))) okB_nil')
  · exact fun hg => ret1 (hR _ (Option.some.inj hg).symm) (fz_sc _ _)
theorem L12_0_ok (n : Nat) (a0 : List TTubeNode) (c2 : Int) (c15 : Int) {t : ρ12} (R : AV → Mem → Prop) (hR : ∀ r : ρ12, t = r → ∀ u m, Ans ((intA r)) u m → R u m) (k : Nat) (x : Int) (hx : iterO (fun y : Int => S12_0 n a0 c2 c15 y) k x = some t) {s : St} (hw : Weak KK 86 0 s (h12_0 (lstA TTubeNode.E a0) c2 (lstA TTubeNode.E a0) c15 x [])) : Tri Tryd.prog KK 86 0 (.loop c12_0) s (q12_0 R ) :=
  L12_0 R  (σ := Nat × (Int)) (fun z => iterO (fun y : Int => S12_0 n a0 c2 c15 y) z.1 z.2 = some t) (fun z => (lstA TTubeNode.E a0)) (fun z => c2) (fun z => (lstA TTubeNode.E a0)) (fun z => c15) (fun z => z.2) (fun z => []) (fun z => z.1) (by
    rintro ⟨k, y⟩ h
    cases k with
    | zero => exact (iterO_zero h).elim
    | succ k =>
      obtain ⟨u, h1, h2, h3⟩ := iterO_elim h
      exact B12_0_ok n a0 c2 c15 y R  _ (fun r e => hR r (h3 _ e).symm)  (fun y' e s' hw => ⟨(k, y'), h2 _ e, Nat.lt_succ_self k, hw⟩) h1) (k, x) hx hw
theorem g12_ok (n : Nat) (a0 : List TTubeNode) {t : ρ12} (R : AV → Mem → Prop) (hR : ∀ r : ρ12, t = r → ∀ u m, Ans ((intA r)) u m → R u m) : g12 n a0 = some t → F12 (lstA TTubeNode.E a0) R := by
  unfold g12 F12
  refine imp (opP_of (show _ = some ((intA (a0.length : Int)), []) from rfl)) ?_
  refine imp ex_i64_b ?_
  refine cond_b (fun _ => ?_) (fun _ => ?_)
  · exact fun hg => ret1 (hR _ (Option.some.inj hg).symm) (fz_sc _ _)
  · refine imp (opP_of (show _ = some ((intA (a0.length : Int)), []) from rfl)) ?_
    refine imp ex_i64_b ?_
    refine cond_b (fun _ => ?_) (fun _ => ?_)
    · exact fun hg => ret1 (hR _ (Option.some.inj hg).symm) (fz_sc _ _)
    · refine imp (opP_of (show _ = some ((intA (a0.length : Int)), []) from rfl)) ?_
      refine imp ex_i64_b ?_
      exact fun hg => L12_0_ok n a0 (0) (a0.length : Int) R  hR n _ hg (weak_mem [] rfl rfl rfl (okW_cons (ent_lst (E := TTubeNode.E) _ false) (okW_cons (.inl (leV_refl _)) (okW_cons (ent_lst (E := TTubeNode.E) _ false) (okW_cons (.inl (leV_refl _)) (okW_cons (.inl (leV_refl _)) okW_nil))))) okB_nil')
theorem sg12 {n : Nat} {a0 : List TTubeNode} {t : ρ12} (h : g12 n a0 = some t) : Says Tryd.prog KK.gl 12 [(lstA TTubeNode.E a0)] ((intA t)) :=
  says_of_own (by first | rfl | simp [cleans, clean, encs_clean, En.cln]) (by first | rfl | simp [cleans, clean, encs_clean, En.cln]) (F12_own (lstA TTubeNode.E a0) _ (g12_ok n a0 (Ans ((intA t))) (fun r e u m h => by rw [e]; exact h) h))
/- skyway/effect.Of$1 -/
theorem g24_ok (n : Nat) (a0_0 : List TTubeNode) {t : ρ24} (R : AV → Mem → Prop) (hR : ∀ r : ρ24, t = r → ∀ u m, Ans ((intA r)) u m → R u m) : g24 n a0_0 = some t → F24 (AV.ept [(lstA TTubeNode.E a0_0)] 0) R := by
  unfold g24 F24
  refine imp (opP_of (show _ = some ((lstA TTubeNode.E a0_0), []) from rfl)) ?_
  refine bind_b fun x8 h8 => ?_
  refine imp (callQ_says (sg12 h8)) ?_
  refine imp ex_i64_b ?_
  exact fun hg => ret1 (hR _ (Option.some.inj hg).symm) (fz_sc _ _)
theorem sg24 {n : Nat} {a0_0 : List TTubeNode} {t : ρ24} (h : g24 n a0_0 = some t) : Says Tryd.prog KK.gl 24 [(AV.ept [(lstA TTubeNode.E a0_0)] 0)] ((intA t)) :=
  says_of_own (by first | rfl | simp [cleans, clean, encs_clean, En.cln]) (by first | rfl | simp [cleans, clean, encs_clean, En.cln]) (F24_own (AV.ept [(lstA TTubeNode.E a0_0)] 0) _ (g24_ok n a0_0 (Ans ((intA t))) (fun r e u m h => by rw [e]; exact h) h))
/- skyway/chart.Name -/
theorem B41_0_ok (n : Nat) (c2 : Bool) (c14 : List UInt8) (c15 : Int) (v16 : Int) {t : (Int) ⊕ ρ41} (R : AV → Mem → Prop) (N0 : St → Prop) (hR : ∀ r : ρ41, t = (.inr r) → ∀ u m, Ans ((boolA r)) u m → R u m) (hN0 : ∀ y : Int, t = (.inl y) → ∀ s' : St, Weak KK 41 0 s' (h41_0 c2 (lstA byteE c14) c15 y []) → N0 s') : S41_0 n c2 c14 c15 v16 = some t → B41_0 c2 (lstA byteE c14) c15 v16 [] R N0 := by
  unfold S41_0 B41_0
  refine cond_b (fun _ => ?_) (fun _ => ?_)
  · refine bind_b fun x12 h12 => ?_
    refine imp (opP_of (show _ = some ((AV.ept [(AV.sc (.int .u8 (x12.toNat : Int)))] 0), []) from (idx_lst (E := byteE) rfl h12))) ?_
    refine imp (opP_of (show _ = some ((AV.sc (.int .u8 (x12.toNat : Int))), []) from rfl)) ?_
    refine imp ex_u8_b ?_
    refine cond_b (fun _ => ?_) (fun _ => ?_)
    · refine cond_b (fun _ => ?_) (fun _ => ?_)
      · exact fun hg => hN0 _ (Option.some.inj hg).symm _ (weak_mem [] rfl rfl rfl (okW_cons (.inl (leV_refl _)) (okW_cons (ent_lst (E := byteE) _ false) (okW_cons (.inl (leV_refl _)) (okW_cons (.inl (leV_refl _)) okW_nil)))) okB_nil')
      · refine cond_b (fun _ => ?_) (fun _ => ?_)
        · refine cond_b (fun _ => ?_) (fun _ => ?_)
          · refine cond_b (fun _ => ?_) (fun _ => ?_)
            · exact fun hg => ret1 (hR _ (Option.some.inj hg).symm) (fz_sc _ _)
            · exact fun hg => hN0 _ (Option.some.inj hg).symm _ (weak_mem [] rfl rfl rfl (okW_cons (.inl (leV_refl _)) (okW_cons (ent_lst (E := byteE) _ false) (okW_cons (.inl (leV_refl _)) (okW_cons (.inl (leV_refl _)) okW_nil)))) okB_nil')
          · exact fun hg => ret1 (hR _ (Option.some.inj hg).symm) (fz_sc _ _)
        · exact fun hg => ret1 (hR _ (Option.some.inj hg).symm) (fz_sc _ _)
    · refine cond_b (fun _ => ?_) (fun _ => ?_)
      · refine cond_b (fun _ => ?_) (fun _ => ?_)
        · refine cond_b (fun _ => ?_) (fun _ => ?_)
          · exact fun hg => ret1 (hR _ (Option.some.inj hg).symm) (fz_sc _ _)
          · exact fun hg => hN0 _ (Option.some.inj hg).symm _ (weak_mem [] rfl rfl rfl (okW_cons (.inl (leV_refl _)) (okW_cons (ent_lst (E := byteE) _ false) (okW_cons (.inl (leV_refl _)) (okW_cons (.inl (leV_refl _)) okW_nil)))) okB_nil')
        · exact fun hg => ret1 (hR _ (Option.some.inj hg).symm) (fz_sc _ _)
      · exact fun hg => ret1 (hR _ (Option.some.inj hg).symm) (fz_sc _ _)
  · exact fun hg => ret1 (hR _ (Option.some.inj hg).symm) (fz_sc _ _)
theorem L41_0_ok (n : Nat) (c2 : Bool) (c14 : List UInt8) (c15 : Int) {t : ρ41} (R : AV → Mem → Prop) (hR : ∀ r : ρ41, t = r → ∀ u m, Ans ((boolA r)) u m → R u m) (k : Nat) (x : Int) (hx : iterO (fun y : Int => S41_0 n c2 c14 c15 y) k x = some t) {s : St} (hw : Weak KK 41 0 s (h41_0 c2 (lstA byteE c14) c15 x [])) : Tri Tryd.prog KK 41 0 (.loop c41_0) s (q41_0 R ) :=
  L41_0 R  (σ := Nat × (Int)) (fun z => iterO (fun y : Int => S41_0 n c2 c14 c15 y) z.1 z.2 = some t) (fun z => c2) (fun z => (lstA byteE c14)) (fun z => c15) (fun z => z.2) (fun z => []) (fun z => z.1) (by
    rintro ⟨k, y⟩ h
    cases k with
    | zero => exact (iterO_zero h).elim
    | succ k =>
      obtain ⟨u, h1, h2, h3⟩ := iterO_elim h
      exact B41_0_ok n c2 c14 c15 y R  _ (fun r e => hR r (h3 _ e).symm)  (fun y' e s' hw => ⟨(k, y'), h2 _ e, Nat.lt_succ_self k, hw⟩) h1) (k, x) hx hw
theorem g41_ok (n : Nat) (a0 : ByteArray) {t : ρ41} (R : AV → Mem → Prop) (hR : ∀ r : ρ41, t = r → ∀ u m, Ans ((boolA r)) u m → R u m) : g41 n a0 = some t → F41 a0 R := by
  unfold g41 F41
  refine imp (opP_of (show _ = some ((intA (a0.size : Int)), []) from (by kernel_rfl))) ?_
  refine imp ex_i64_b ?_
  refine cond_b (fun _ => ?_) (fun _ => ?_)
  · exact fun hg => ret1 (hR _ (Option.some.inj hg).symm) (fz_sc _ _)
  · refine imp (opP_of (show _ = some ((intA (a0.size : Int)), []) from (by kernel_rfl))) ?_
    refine imp ex_i64_b ?_
    refine cond_b (fun _ => ?_) (fun _ => ?_)
    · exact fun hg => ret1 (hR _ (Option.some.inj hg).symm) (fz_sc _ _)
    · refine bind_b fun x11 h11 => ?_
      refine imp (opP_of (show _ = some ((lstA byteE (a0.data.toList)), []) from (opA_bytes (e := 5) (by kernel_rfl) (by kernel_rfl) (by kernel_rfl) h11))) ?_
      refine imp (opP_of (show _ = some ((intA ((a0.data.toList).length : Int)), []) from rfl)) ?_
      refine imp ex_i64_b ?_
      exact fun hg => L41_0_ok n false (a0.data.toList) ((a0.data.toList).length : Int) R  hR n _ hg (weak_mem [] rfl rfl rfl (okW_cons (.inl (leV_refl _)) (okW_cons (ent_lst (E := byteE) _ false) (okW_cons (.inl (leV_refl _)) (okW_cons (.inl (leV_refl _)) okW_nil)))) okB_nil')
theorem sg41 {n : Nat} {a0 : ByteArray} {t : ρ41} (h : g41 n a0 = some t) : Says Tryd.prog KK.gl 41 [(strA a0)] ((boolA t)) :=
  says_of_own (by first | rfl | simp [cleans, clean, encs_clean, En.cln]) (by first | rfl | simp [cleans, clean, encs_clean, En.cln]) (F41_own a0 _ (g41_ok n a0 (Ans ((boolA t))) (fun r e u m h => by rw [e]; exact h) h))
/- slices.Index[[]string,string] -/
theorem B59_0_ok (n : Nat) (a0 : List ByteArray) (a1 : ByteArray) (c4 : Int) (c7 : Int) (v8 : Int) {t : (Int) ⊕ ρ59} (R : AV → Mem → Prop) (N0 : St → Prop) (hR : ∀ r : ρ59, t = (.inr r) → ∀ u m, Ans ((intA r)) u m → R u m) (hN0 : ∀ y : Int, t = (.inl y) → ∀ s' : St, Weak KK 19 0 s' (h59_0 (lstA strE a0) a1 c4 c7 y []) → N0 s') : S59_0 n a0 a1 c4 c7 v8 = some t → B59_0 (lstA strE a0) a1 c4 c7 v8 [] R N0 := by
  unfold S59_0 B59_0
  refine cond_b (fun _ => ?_) (fun _ => ?_)
  · refine bind_b fun x14 h14 => ?_
    refine imp (opP_of (show _ = some ((AV.ept [(strA x14)] 0), []) from (idx_lst (E := strE) rfl h14))) ?_
    refine imp (opP_of (show _ = some ((strA x14), []) from rfl)) ?_
    refine imp exStr_b ?_
    refine cond_b (fun _ => ?_) (fun _ => ?_)
    · exact fun hg => ret1 (hR _ (Option.some.inj hg).symm) (fz_sc _ _)
    · exact fun hg => hN0 _ (Option.some.inj hg).symm _ (weak_mem [] rfl rfl rfl (okW_cons (ent_lst (E := strE) _ false) (okW_cons (.inl (leV_refl _)) (okW_cons (.inl (leV_refl _)) (okW_cons (.inl (leV_refl _)) (okW_cons (.inl (leV_refl _)) okW_nil))))) okB_nil')
  · exact fun hg => ret1 (hR _ (Option.some.inj hg).symm) (fz_sc _ _)
theorem L59_0_ok (n : Nat) (a0 : List ByteArray) (a1 : ByteArray) (c4 : Int) (c7 : Int) {t : ρ59} (R : AV → Mem → Prop) (hR : ∀ r : ρ59, t = r → ∀ u m, Ans ((intA r)) u m → R u m) (k : Nat) (x : Int) (hx : iterO (fun y : Int => S59_0 n a0 a1 c4 c7 y) k x = some t) {s : St} (hw : Weak KK 19 0 s (h59_0 (lstA strE a0) a1 c4 c7 x [])) : Tri Tryd.prog KK 19 0 (.loop c59_0) s (q59_0 R ) :=
  L59_0 R  (σ := Nat × (Int)) (fun z => iterO (fun y : Int => S59_0 n a0 a1 c4 c7 y) z.1 z.2 = some t) (fun z => (lstA strE a0)) (fun z => a1) (fun z => c4) (fun z => c7) (fun z => z.2) (fun z => []) (fun z => z.1) (by
    rintro ⟨k, y⟩ h
    cases k with
    | zero => exact (iterO_zero h).elim
    | succ k =>
      obtain ⟨u, h1, h2, h3⟩ := iterO_elim h
      exact B59_0_ok n a0 a1 c4 c7 y R  _ (fun r e => hR r (h3 _ e).symm)  (fun y' e s' hw => ⟨(k, y'), h2 _ e, Nat.lt_succ_self k, hw⟩) h1) (k, x) hx hw
theorem g59_ok (n : Nat) (a0 : List ByteArray) (a1 : ByteArray) {t : ρ59} (R : AV → Mem → Prop) (hR : ∀ r : ρ59, t = r → ∀ u m, Ans ((intA r)) u m → R u m) : g59 n a0 a1 = some t → F59 (lstA strE a0) a1 R := by
  unfold g59 F59
  refine imp (opP_of (show _ = some ((intA (a0.length : Int)), []) from rfl)) ?_
  refine imp ex_i64_b ?_
  exact fun hg => L59_0_ok n a0 a1 (0) (a0.length : Int) R  hR n _ hg (weak_mem [] rfl rfl rfl (okW_cons (ent_lst (E := strE) _ false) (okW_cons (.inl (leV_refl _)) (okW_cons (.inl (leV_refl _)) (okW_cons (.inl (leV_refl _)) (okW_cons (.inl (leV_refl _)) okW_nil))))) okB_nil')
theorem sg59 {n : Nat} {a0 : List ByteArray} {a1 : ByteArray} {t : ρ59} (h : g59 n a0 a1 = some t) : Says Tryd.prog KK.gl 59 [(lstA strE a0), (strA a1)] ((intA t)) :=
  says_of_own (by first | rfl | simp [cleans, clean, encs_clean, En.cln]) (by first | rfl | simp [cleans, clean, encs_clean, En.cln]) (F59_own (lstA strE a0) a1 _ (g59_ok n a0 a1 (Ans ((intA t))) (fun r e u m h => by rw [e]; exact h) h))
/- skyway/phrase.kind -/
theorem g52_ok (n : Nat) (a0 : ByteArray) {t : ρ52} (R : AV → Mem → Prop) (hR : ∀ r : ρ52, t = r → ∀ u m, Ans ((intA r)) u m → R u m) : g52 n a0 = some t → F52 a0 R := by
  unfold g52 F52
  refine imp (opP_of (show _ = some ((AV.lst (([(⟨#[72, 69, 73, 71, 72, 84]⟩ : ByteArray), (⟨#[72, 69, 65, 68, 73, 78, 71]⟩ : ByteArray), (⟨#[83, 80, 69, 69, 68]⟩ : ByteArray), (⟨#[68, 73, 82, 69, 67, 84]⟩ : ByteArray), (⟨#[72, 79, 76, 68]⟩ : ByteArray), (⟨#[67, 79, 78, 84, 65, 67, 84]⟩ : ByteArray), (⟨#[76, 65, 78, 68]⟩ : ByteArray)] : List ByteArray)).length (encs strE ([(⟨#[72, 69, 73, 71, 72, 84]⟩ : ByteArray), (⟨#[72, 69, 65, 68, 73, 78, 71]⟩ : ByteArray), (⟨#[83, 80, 69, 69, 68]⟩ : ByteArray), (⟨#[68, 73, 82, 69, 67, 84]⟩ : ByteArray), (⟨#[72, 79, 76, 68]⟩ : ByteArray), (⟨#[67, 79, 78, 84, 65, 67, 84]⟩ : ByteArray), (⟨#[76, 65, 78, 68]⟩ : ByteArray)] : List ByteArray)) true), []) from (by kernel_rfl))) ?_
  refine bind_b fun x15 h15 => ?_
  refine imp (callQ_saysL (rl_cons leV_lstT (rl_cons (leV_refl _) rl_nil)) (sg59 h15)) ?_
  refine imp ex_i64_b ?_
  exact fun hg => ret1 (hR _ (Option.some.inj hg).symm) (fz_sc _ _)
theorem sg52 {n : Nat} {a0 : ByteArray} {t : ρ52} (h : g52 n a0 = some t) : Says Tryd.prog KK.gl 52 [(strA a0)] ((intA t)) :=
  says_of_own (by first | rfl | simp [cleans, clean, encs_clean, En.cln]) (by first | rfl | simp [cleans, clean, encs_clean, En.cln]) (F52_own a0 _ (g52_ok n a0 (Ans ((intA t))) (fun r e u m h => by rw [e]; exact h) h))
/- skyway/phrase.name -/
theorem g39_ok (n : Nat) (a0 : ByteArray) {t : ρ39} (R : AV → Mem → Prop) (hR : ∀ r : ρ39, t = r → ∀ u m, Ans ((boolA r)) u m → R u m) : g39 n a0 = some t → F39 a0 R := by
  unfold g39 F39
  refine bind_b fun x13 h13 => ?_
  refine imp (callQ_says (sg41 h13)) ?_
  refine imp exB_b ?_
  refine cond_b (fun _ => ?_) (fun _ => ?_)
  · refine bind_b fun x16 h16 => ?_
    refine imp (callQ_says (sg52 h16)) ?_
    refine imp ex_i64_b ?_
    exact fun hg => ret1 (hR _ (Option.some.inj hg).symm) (fz_sc _ _)
  · exact fun hg => ret1 (hR _ (Option.some.inj hg).symm) (fz_sc _ _)
theorem sg39 {n : Nat} {a0 : ByteArray} {t : ρ39} (h : g39 n a0 = some t) : Says Tryd.prog KK.gl 39 [(strA a0)] ((boolA t)) :=
  says_of_own (by first | rfl | simp [cleans, clean, encs_clean, En.cln]) (by first | rfl | simp [cleans, clean, encs_clean, En.cln]) (F39_own a0 _ (g39_ok n a0 (Ans ((boolA t))) (fun r e u m h => by rw [e]; exact h) h))
/- skyway/phrase.Check -/
theorem g26_ok (n : Nat) (a0 : TClearance) {t : ρ26} (R : AV → Mem → Prop) (hR : ∀ r : ρ26, t = r → ∀ u m, Ans ((intA r)) u m → R u m) : g26 n a0 = some t → F26 a0.Call a0.Kind a0.Value a0.Fix R := by
  unfold g26 F26
  refine bind_b fun x17 h17 => ?_
  refine imp (callQ_says (sg39 h17)) ?_
  refine imp exB_b ?_
  refine cond_b (fun _ => ?_) (fun _ => ?_)
  · exact fun hg => ret1 (hR _ (Option.some.inj hg).symm) (fz_sc _ _)
  · refine cond_b (fun _ => ?_) (fun _ => ?_)
    · exact fun hg => ret1 (hR _ (Option.some.inj hg).symm) (fz_sc _ _)
    · refine cond_b (fun _ => ?_) (fun _ => ?_)
      · exact fun hg => ret1 (hR _ (Option.some.inj hg).symm) (fz_sc _ _)
      · refine cond_b (fun _ => ?_) (fun _ => ?_)
        · refine cond_b (fun _ => ?_) (fun _ => ?_)
          · exact fun hg => ret1 (hR _ (Option.some.inj hg).symm) (fz_sc _ _)
          · refine bind_b fun x18 h18 => ?_
            refine imp (callQ_says (sg39 h18)) ?_
            refine imp exB_b ?_
            refine cond_b (fun _ => ?_) (fun _ => ?_)
            · exact fun hg => ret1 (hR _ (Option.some.inj hg).symm) (fz_sc _ _)
            · exact fun hg => ret1 (hR _ (Option.some.inj hg).symm) (fz_sc _ _)
        · refine cond_b (fun _ => ?_) (fun _ => ?_)
          · exact fun hg => ret1 (hR _ (Option.some.inj hg).symm) (fz_sc _ _)
          · refine cond_b (fun _ => ?_) (fun _ => ?_)
            · exact fun hg => ret1 (hR _ (Option.some.inj hg).symm) (fz_sc _ _)
            · refine bind_b fun x19 h19 => ?_
              refine imp (opP_of (show _ = some ((AV.ept [(intA (60000)), (intA (4095)), (intA (400))] (((a0.Kind : Int).toNat) * 1 + 0)), []) from (idxA_ept0 (l := ([(60000), (4095), (400)] : List Int)) (len := 3) rfl h19))) ?_
              refine imp (opP_of (show _ = some ((intA x19), []) from (ldS_ept_blk (E := intE) (l := ([(60000), (4095), (400)] : List Int)) (o := 0) rfl (getI_some h19).2 rfl (by decide) rfl))) ?_
              refine imp ex_i64_b ?_
              refine cond_b (fun _ => ?_) (fun _ => ?_)
              · exact fun hg => ret1 (hR _ (Option.some.inj hg).symm) (fz_sc _ _)
              · exact fun hg => ret1 (hR _ (Option.some.inj hg).symm) (fz_sc _ _)
theorem sg26 {n : Nat} {a0 : TClearance} {t : ρ26} (h : g26 n a0 = some t) : Says Tryd.prog KK.gl 26 [(AV.agg [(strA a0.Call), (intA a0.Kind), (intA a0.Value), (strA a0.Fix)])] ((intA t)) :=
  says_of_own (by first | rfl | simp [cleans, clean, encs_clean, En.cln]) (by first | rfl | simp [cleans, clean, encs_clean, En.cln]) (F26_own a0.Call a0.Kind a0.Value a0.Fix _ (g26_ok n a0 (Ans ((intA t))) (fun r e u m h => by rw [e]; exact h) h))
/- skyway/effect.Of$2 -/
theorem g25_ok (n : Nat) (a0_0 : ByteArray) (a0_1 : Int) (a0_2 : Int) (a0_3 : ByteArray) {t : ρ25} (R : AV → Mem → Prop) (hR : ∀ r : ρ25, t = r → ∀ u m, Ans ((intA r)) u m → R u m) : g25 n a0_0 a0_1 a0_2 a0_3 = some t → F25 (AV.ept [(strA a0_0), (intA a0_1), (intA a0_2), (strA a0_3)] 0) R := by
  unfold g25 F25
  refine imp (opP_of (show _ = some ((AV.agg [(strA a0_0), (intA a0_1), (intA a0_2), (strA a0_3)]), []) from rfl)) ?_
  refine imp exA4_b ?_
  refine imp exStr_b ?_
  refine imp ex_i64_b ?_
  refine imp ex_i64_b ?_
  refine imp exStr_b ?_
  refine bind_b fun x20 h20 => ?_
  refine imp (callQ_says (sg26 h20)) ?_
  refine imp ex_i64_b ?_
  exact fun hg => ret1 (hR _ (Option.some.inj hg).symm) (fz_sc _ _)
theorem sg25 {n : Nat} {a0_0 : ByteArray} {a0_1 : Int} {a0_2 : Int} {a0_3 : ByteArray} {t : ρ25} (h : g25 n a0_0 a0_1 a0_2 a0_3 = some t) : Says Tryd.prog KK.gl 25 [(AV.ept [(strA a0_0), (intA a0_1), (intA a0_2), (strA a0_3)] 0)] ((intA t)) :=
  says_of_own (by first | rfl | simp [cleans, clean, encs_clean, En.cln]) (by first | rfl | simp [cleans, clean, encs_clean, En.cln]) (F25_own (AV.ept [(strA a0_0), (intA a0_1), (intA a0_2), (strA a0_3)] 0) _ (g25_ok n a0_0 a0_1 a0_2 a0_3 (Ans ((intA t))) (fun r e u m h => by rw [e]; exact h) h))
/- skyway/aircraft.Check$1 -/
theorem g40_ok (n : Nat) (a0 : Int) (a1 : Int) {t : ρ40} (R : AV → Mem → Prop) (hR : ∀ r : ρ40, t = r → ∀ u m, Ans ((boolA r)) u m → R u m) : g40 n a0 a1 = some t → F40 a0 a1 R := by
  unfold g40 F40
  refine cond_b (fun _ => ?_) (fun _ => ?_)
  · exact fun hg => ret1 (hR _ (Option.some.inj hg).symm) (fz_sc _ _)
  · exact fun hg => ret1 (hR _ (Option.some.inj hg).symm) (fz_sc _ _)
theorem sg40 {n : Nat} {a0 : Int} {a1 : Int} {t : ρ40} (h : g40 n a0 a1 = some t) : Says Tryd.prog KK.gl 40 [(intA a0), (intA a1)] ((boolA t)) :=
  says_of_own (by first | rfl | simp [cleans, clean, encs_clean, En.cln]) (by first | rfl | simp [cleans, clean, encs_clean, En.cln]) (F40_own a0 a1 _ (g40_ok n a0 a1 (Ans ((boolA t))) (fun r e u m h => by rw [e]; exact h) h))
/- skyway/aircraft.Check -/
theorem g28_ok (n : Nat) (a0 : TKind) {t : ρ28} (R : AV → Mem → Prop) (hR : ∀ r : ρ28, t = r → ∀ u m, Ans ((intA r)) u m → R u m) : g28 n a0 = some t → F28 a0.Name a0.Wake a0.Ceiling a0.Climb a0.Descent a0.Slow a0.Fast R := by
  unfold g28 F28
  refine bind_b fun x23 h23 => ?_
  refine imp (callQ_says (sg41 h23)) ?_
  refine imp exB_b ?_
  refine cond_b (fun _ => ?_) (fun _ => ?_)
  · exact fun hg => ret1 (hR _ (Option.some.inj hg).symm) (fz_sc _ _)
  · refine cond_b (fun _ => ?_) (fun _ => ?_)
    · exact fun hg => ret1 (hR _ (Option.some.inj hg).symm) (fz_sc _ _)
    · refine cond_b (fun _ => ?_) (fun _ => ?_)
      · exact fun hg => ret1 (hR _ (Option.some.inj hg).symm) (fz_sc _ _)
      · refine bind_b fun x24 h24 => ?_
        refine imp (callQ_says (sg40 h24)) ?_
        refine imp exB_b ?_
        refine cond_b (fun _ => ?_) (fun _ => ?_)
        · exact fun hg => ret1 (hR _ (Option.some.inj hg).symm) (fz_sc _ _)
        · refine bind_b fun x25 h25 => ?_
          refine imp (callQ_says (sg40 h25)) ?_
          refine imp exB_b ?_
          refine cond_b (fun _ => ?_) (fun _ => ?_)
          · exact fun hg => ret1 (hR _ (Option.some.inj hg).symm) (fz_sc _ _)
          · refine bind_b fun x26 h26 => ?_
            refine imp (callQ_says (sg40 h26)) ?_
            refine imp exB_b ?_
            refine cond_b (fun _ => ?_) (fun _ => ?_)
            · exact fun hg => ret1 (hR _ (Option.some.inj hg).symm) (fz_sc _ _)
            · refine bind_b fun x27 h27 => ?_
              refine imp (callQ_says (sg40 h27)) ?_
              refine imp exB_b ?_
              refine cond_b (fun _ => ?_) (fun _ => ?_)
              · exact fun hg => ret1 (hR _ (Option.some.inj hg).symm) (fz_sc _ _)
              · refine bind_b fun x28 h28 => ?_
                refine imp (callQ_says (sg40 h28)) ?_
                refine imp exB_b ?_
                refine cond_b (fun _ => ?_) (fun _ => ?_)
                · exact fun hg => ret1 (hR _ (Option.some.inj hg).symm) (fz_sc _ _)
                · refine cond_b (fun _ => ?_) (fun _ => ?_)
                  · exact fun hg => ret1 (hR _ (Option.some.inj hg).symm) (fz_sc _ _)
                  · exact fun hg => ret1 (hR _ (Option.some.inj hg).symm) (fz_sc _ _)
theorem sg28 {n : Nat} {a0 : TKind} {t : ρ28} (h : g28 n a0 = some t) : Says Tryd.prog KK.gl 28 [(AV.agg [(strA a0.Name), (intA a0.Wake), (intA a0.Ceiling), (intA a0.Climb), (intA a0.Descent), (intA a0.Slow), (intA a0.Fast)])] ((intA t)) :=
  says_of_own (by first | rfl | simp [cleans, clean, encs_clean, En.cln]) (by first | rfl | simp [cleans, clean, encs_clean, En.cln]) (F28_own a0.Name a0.Wake a0.Ceiling a0.Climb a0.Descent a0.Slow a0.Fast _ (g28_ok n a0 (Ans ((intA t))) (fun r e u m h => by rw [e]; exact h) h))
/- skyway/effect.Of$3 -/
theorem g27_ok (n : Nat) (a0_0 : ByteArray) (a0_1 : Int) (a0_2 : Int) (a0_3 : Int) (a0_4 : Int) (a0_5 : Int) (a0_6 : Int) {t : ρ27} (R : AV → Mem → Prop) (hR : ∀ r : ρ27, t = r → ∀ u m, Ans ((intA r)) u m → R u m) : g27 n a0_0 a0_1 a0_2 a0_3 a0_4 a0_5 a0_6 = some t → F27 (AV.ept [(strA a0_0), (intA a0_1), (intA a0_2), (intA a0_3), (intA a0_4), (intA a0_5), (intA a0_6)] 0) R := by
  unfold g27 F27
  refine imp (opP_of (show _ = some ((AV.agg [(strA a0_0), (intA a0_1), (intA a0_2), (intA a0_3), (intA a0_4), (intA a0_5), (intA a0_6)]), []) from rfl)) ?_
  refine imp exA7_b ?_
  refine imp exStr_b ?_
  refine imp ex_i64_b ?_
  refine imp ex_i64_b ?_
  refine imp ex_i64_b ?_
  refine imp ex_i64_b ?_
  refine imp ex_i64_b ?_
  refine imp ex_i64_b ?_
  refine bind_b fun x29 h29 => ?_
  refine imp (callQ_says (sg28 h29)) ?_
  refine imp ex_i64_b ?_
  exact fun hg => ret1 (hR _ (Option.some.inj hg).symm) (fz_sc _ _)
theorem sg27 {n : Nat} {a0_0 : ByteArray} {a0_1 : Int} {a0_2 : Int} {a0_3 : Int} {a0_4 : Int} {a0_5 : Int} {a0_6 : Int} {t : ρ27} (h : g27 n a0_0 a0_1 a0_2 a0_3 a0_4 a0_5 a0_6 = some t) : Says Tryd.prog KK.gl 27 [(AV.ept [(strA a0_0), (intA a0_1), (intA a0_2), (intA a0_3), (intA a0_4), (intA a0_5), (intA a0_6)] 0)] ((intA t)) :=
  says_of_own (by first | rfl | simp [cleans, clean, encs_clean, En.cln]) (by first | rfl | simp [cleans, clean, encs_clean, En.cln]) (F27_own (AV.ept [(strA a0_0), (intA a0_1), (intA a0_2), (intA a0_3), (intA a0_4), (intA a0_5), (intA a0_6)] 0) _ (g27_ok n a0_0 a0_1 a0_2 a0_3 a0_4 a0_5 a0_6 (Ans ((intA t))) (fun r e u m h => by rw [e]; exact h) h))
/- skyway/effect.Of$4 -/
theorem g29_ok (n : Nat) (a0_0 : Int) (a0_1 : Int) {t : ρ29} (R : AV → Mem → Prop) (hR : ∀ r : ρ29, t = r → ∀ u m, Ans ((intA r)) u m → R u m) : g29 n a0_0 a0_1 = some t → F29 (AV.ept [(intA a0_0), (intA a0_1)] 0) R := by
  unfold g29 F29
  refine imp (opP_of (show _ = some ((AV.agg [(intA a0_0), (intA a0_1)]), []) from rfl)) ?_
  refine imp exA2_b ?_
  refine imp ex_i64_b ?_
  refine imp ex_i64_b ?_
  refine bind_b fun x32 h32 => ?_
  refine imp (callQ_says (sg30 h32)) ?_
  refine imp ex_i64_b ?_
  exact fun hg => ret1 (hR _ (Option.some.inj hg).symm) (fz_sc _ _)
theorem sg29 {n : Nat} {a0_0 : Int} {a0_1 : Int} {t : ρ29} (h : g29 n a0_0 a0_1 = some t) : Says Tryd.prog KK.gl 29 [(AV.ept [(intA a0_0), (intA a0_1)] 0)] ((intA t)) :=
  says_of_own (by first | rfl | simp [cleans, clean, encs_clean, En.cln]) (by first | rfl | simp [cleans, clean, encs_clean, En.cln]) (F29_own (AV.ept [(intA a0_0), (intA a0_1)] 0) _ (g29_ok n a0_0 a0_1 (Ans ((intA t))) (fun r e u m h => by rw [e]; exact h) h))
/- skyway/tube.ends -/
theorem g34_ok (n : Nat) (a0 : List TTubeNode) {t : ρ34} (R : AV → Mem → Prop) (hR : ∀ r : ρ34, t = r → ∀ u m, Ans ((AV.tup [(intA r.1), (intA r.2)])) u m → R u m) : g34 n a0 = some t → F34 (lstA TTubeNode.E a0) R := by
  unfold g34 F34
  refine bind_b fun x35 h35 => ?_
  refine imp (opP_of (show _ = some ((AV.ept [(intA x35.Node_Time), (intA x35.Node_At_X), (intA x35.Node_At_Y), (intA x35.Node_Height), (intA x35.Radius), (intA x35.Band)] 0), []) from (idx_lst (E := TTubeNode.E) rfl h35))) ?_
  refine imp (opP_of (show _ = some ((AV.ept [(intA x35.Node_Time), (intA x35.Node_At_X), (intA x35.Node_At_Y), (intA x35.Node_Height), (intA x35.Radius), (intA x35.Band)] 0), []) from rfl)) ?_
  refine imp (opP_of (show _ = some ((AV.ept [(intA x35.Node_Time), (intA x35.Node_At_X), (intA x35.Node_At_Y), (intA x35.Node_Height), (intA x35.Radius), (intA x35.Band)] 0), []) from rfl)) ?_
  refine imp (opP_of (show _ = some ((intA x35.Node_Time), []) from rfl)) ?_
  refine imp ex_i64_b ?_
  refine imp (opP_of (show _ = some ((intA (a0.length : Int)), []) from rfl)) ?_
  refine imp ex_i64_b ?_
  refine bind_b fun x36 h36 => ?_
  refine imp (opP_of (show _ = some ((AV.ept [(intA x36.Node_Time), (intA x36.Node_At_X), (intA x36.Node_At_Y), (intA x36.Node_Height), (intA x36.Radius), (intA x36.Band)] 0), []) from (idx_lst (E := TTubeNode.E) rfl h36))) ?_
  refine imp (opP_of (show _ = some ((AV.ept [(intA x36.Node_Time), (intA x36.Node_At_X), (intA x36.Node_At_Y), (intA x36.Node_Height), (intA x36.Radius), (intA x36.Band)] 0), []) from rfl)) ?_
  refine imp (opP_of (show _ = some ((AV.ept [(intA x36.Node_Time), (intA x36.Node_At_X), (intA x36.Node_At_Y), (intA x36.Node_Height), (intA x36.Radius), (intA x36.Band)] 0), []) from rfl)) ?_
  refine imp (opP_of (show _ = some ((intA x36.Node_Time), []) from rfl)) ?_
  refine imp ex_i64_b ?_
  exact fun hg => retN rfl (hR _ (Option.some.inj hg).symm) (fzL_cons (fz_sc _ _) (fzL_cons (fz_sc _ _) fzL_nil))
theorem sg34 {n : Nat} {a0 : List TTubeNode} {t : ρ34} (h : g34 n a0 = some t) : Says Tryd.prog KK.gl 34 [(lstA TTubeNode.E a0)] ((AV.tup [(intA t.1), (intA t.2)])) :=
  says_of_own (by first | rfl | simp [cleans, clean, encs_clean, En.cln]) (by first | rfl | simp [cleans, clean, encs_clean, En.cln]) (F34_own (lstA TTubeNode.E a0) _ (g34_ok n a0 (Ans ((AV.tup [(intA t.1), (intA t.2)]))) (fun r e u m h => by rw [e]; exact h) h))
/- skyway/tube.at$1 -/
theorem g48_ok (n : Nat) (a0 : TTubeNode) (a1 : Int) {t : ρ48} (R : AV → Mem → Prop) (hR : ∀ r : ρ48, t = r → ∀ u m, Ans ((intA r)) u m → R u m) : g48 n a0 a1 = some t → F48 a0.Node_Time a0.Node_At_X a0.Node_At_Y a0.Node_Height a0.Radius a0.Band a1 R := by
  unfold g48 F48
  exact fun hg => ret1 (hR _ (Option.some.inj hg).symm) (fz_sc _ _)
theorem sg48 {n : Nat} {a0 : TTubeNode} {a1 : Int} {t : ρ48} (h : g48 n a0 a1 = some t) : Says Tryd.prog KK.gl 48 [(AV.agg [(intA a0.Node_Time), (intA a0.Node_At_X), (intA a0.Node_At_Y), (intA a0.Node_Height), (intA a0.Radius), (intA a0.Band)]), (intA a1)] ((intA t)) :=
  says_of_own (by first | rfl | simp [cleans, clean, encs_clean, En.cln]) (by first | rfl | simp [cleans, clean, encs_clean, En.cln]) (F48_own a0.Node_Time a0.Node_At_X a0.Node_At_Y a0.Node_Height a0.Radius a0.Band a1 _ (g48_ok n a0 a1 (Ans ((intA t))) (fun r e u m h => by rw [e]; exact h) h))
/- slices.BinarySearchFunc[skyway/api.Tube,skyway/api.TubeNode,int] -/
theorem B47_0_ok (n : Nat) (a0 : List TTubeNode) (a1 : Int) (c6 : Int) (c7 : Bool) (c8 : Int) (v9 : Int) (v10 : Int) {t : (Int × Int) ⊕ ρ47} (R : AV → Mem → Prop) (N0 : St → Prop) (hR : ∀ r : ρ47, t = (.inr r) → ∀ u m, Ans ((AV.tup [(intA r.1), (boolA r.2)])) u m → R u m) (hN0 : ∀ y : Int × Int, t = (.inl y) → ∀ s' : St, Weak KK 49 0 s' (h47_0 (lstA TTubeNode.E a0) a1 (AV.fn 48 []) c6 c7 c8 y.1 y.2 []) → N0 s') : S47_0 n a0 a1 c6 c7 c8 v9 v10 = some t → B47_0 (lstA TTubeNode.E a0) a1 (AV.fn 48 []) c6 c7 c8 v9 v10 [] R N0 := by
  unfold S47_0 B47_0
  refine cond_b (fun _ => ?_) (fun _ => ?_)
  · refine imp (opP_of (show _ = some ((AV.sc (.int .u64 (IntKind.wrap .u64 (IntKind.wrap .i64 (v9 + v10))))), []) from (by kernel_rfl))) ?_
    refine imp ex_u64_b ?_
    refine imp (opP_of (show _ = some ((AV.sc (.int .u64 (Int.fdiv (IntKind.wrap .u64 (IntKind.wrap .i64 (v9 + v10))) 2))), []) from opA_shr1)) ?_
    refine imp ex_u64_b ?_
    refine imp (opP_of (show _ = some ((intA (IntKind.wrap .i64 (Int.fdiv (IntKind.wrap .u64 (IntKind.wrap .i64 (v9 + v10))) 2))), []) from (by kernel_rfl))) ?_
    refine imp ex_i64_b ?_
    refine bind_b fun x38 h38 => ?_
    refine imp (opP_of (show _ = some ((AV.ept [(intA x38.Node_Time), (intA x38.Node_At_X), (intA x38.Node_At_Y), (intA x38.Node_Height), (intA x38.Radius), (intA x38.Band)] 0), []) from (idx_lst (E := TTubeNode.E) rfl h38))) ?_
    refine imp (opP_of (show _ = some ((AV.agg [(intA x38.Node_Time), (intA x38.Node_At_X), (intA x38.Node_At_Y), (intA x38.Node_Height), (intA x38.Radius), (intA x38.Band)]), []) from rfl)) ?_
    refine imp exA6_b ?_
    refine imp ex_i64_b ?_
    refine imp ex_i64_b ?_
    refine imp ex_i64_b ?_
    refine imp ex_i64_b ?_
    refine imp ex_i64_b ?_
    refine imp ex_i64_b ?_
    refine bind_b fun x39 h39 => ?_
    refine imp fnArgs_b ?_
    refine imp (cond_tt rfl) ?_
    refine imp (callQ_says (sg48 h39)) ?_
    refine imp ex_i64_b ?_
    refine cond_b (fun _ => ?_) (fun _ => ?_)
    · exact fun hg => hN0 _ (Option.some.inj hg).symm _ (weak_mem [] rfl rfl rfl (okW_cons (ent_lst (E := TTubeNode.E) _ false) (okW_cons (.inl (leV_refl _)) (okW_cons (.inl (leV_refl _)) (okW_cons (.inl (leV_refl _)) (okW_cons (.inl (leV_refl _)) (okW_cons (.inl (leV_refl _)) (okW_cons (.inl (leV_refl _)) (okW_cons (.inl (leV_refl _)) okW_nil)))))))) okB_nil')
    · exact fun hg => hN0 _ (Option.some.inj hg).symm _ (weak_mem [] rfl rfl rfl (okW_cons (ent_lst (E := TTubeNode.E) _ false) (okW_cons (.inl (leV_refl _)) (okW_cons (.inl (leV_refl _)) (okW_cons (.inl (leV_refl _)) (okW_cons (.inl (leV_refl _)) (okW_cons (.inl (leV_refl _)) (okW_cons (.inl (leV_refl _)) (okW_cons (.inl (leV_refl _)) okW_nil)))))))) okB_nil')
  · refine cond_b (fun _ => ?_) (fun _ => ?_)
    · refine bind_b fun x40 h40 => ?_
      refine imp (opP_of (show _ = some ((AV.ept [(intA x40.Node_Time), (intA x40.Node_At_X), (intA x40.Node_At_Y), (intA x40.Node_Height), (intA x40.Radius), (intA x40.Band)] 0), []) from (idx_lst (E := TTubeNode.E) rfl h40))) ?_
      refine imp (opP_of (show _ = some ((AV.agg [(intA x40.Node_Time), (intA x40.Node_At_X), (intA x40.Node_At_Y), (intA x40.Node_Height), (intA x40.Radius), (intA x40.Band)]), []) from rfl)) ?_
      refine imp exA6_b ?_
      refine imp ex_i64_b ?_
      refine imp ex_i64_b ?_
      refine imp ex_i64_b ?_
      refine imp ex_i64_b ?_
      refine imp ex_i64_b ?_
      refine imp ex_i64_b ?_
      refine bind_b fun x41 h41 => ?_
      refine imp fnArgs_b ?_
      refine imp (cond_tt rfl) ?_
      refine imp (callQ_says (sg48 h41)) ?_
      refine imp ex_i64_b ?_
      exact fun hg => retN rfl (hR _ (Option.some.inj hg).symm) (fzL_cons (fz_sc _ _) (fzL_cons (fz_sc _ _) fzL_nil))
    · exact fun hg => retN rfl (hR _ (Option.some.inj hg).symm) (fzL_cons (fz_sc _ _) (fzL_cons (fz_sc _ _) fzL_nil))
theorem L47_0_ok (n : Nat) (a0 : List TTubeNode) (a1 : Int) (c6 : Int) (c7 : Bool) (c8 : Int) {t : ρ47} (R : AV → Mem → Prop) (hR : ∀ r : ρ47, t = r → ∀ u m, Ans ((AV.tup [(intA r.1), (boolA r.2)])) u m → R u m) (k : Nat) (x : Int × Int) (hx : iterO (fun y : Int × Int => S47_0 n a0 a1 c6 c7 c8 y.1 y.2) k x = some t) {s : St} (hw : Weak KK 49 0 s (h47_0 (lstA TTubeNode.E a0) a1 (AV.fn 48 []) c6 c7 c8 x.1 x.2 [])) : Tri Tryd.prog KK 49 0 (.loop c47_0) s (q47_0 R ) :=
  L47_0 R  (σ := Nat × (Int × Int)) (fun z => iterO (fun y : Int × Int => S47_0 n a0 a1 c6 c7 c8 y.1 y.2) z.1 z.2 = some t) (fun z => (lstA TTubeNode.E a0)) (fun z => a1) (fun z => (AV.fn 48 [])) (fun z => c6) (fun z => c7) (fun z => c8) (fun z => z.2.1) (fun z => z.2.2) (fun z => []) (fun z => z.1) (by
    rintro ⟨k, y⟩ h
    cases k with
    | zero => exact (iterO_zero h).elim
    | succ k =>
      obtain ⟨u, h1, h2, h3⟩ := iterO_elim h
      exact B47_0_ok n a0 a1 c6 c7 c8 y.1 y.2 R  _ (fun r e => hR r (h3 _ e).symm)  (fun y' e s' hw => ⟨(k, y'), h2 _ e, Nat.lt_succ_self k, hw⟩) h1) (k, x) hx hw
theorem g47_ok (n : Nat) (a0 : List TTubeNode) (a1 : Int) {t : ρ47} (R : AV → Mem → Prop) (hR : ∀ r : ρ47, t = r → ∀ u m, Ans ((AV.tup [(intA r.1), (boolA r.2)])) u m → R u m) : g47 n a0 a1 = some t → F47 (lstA TTubeNode.E a0) a1 (AV.fn 48 []) R := by
  unfold g47 F47
  refine imp (opP_of (show _ = some ((intA (a0.length : Int)), []) from rfl)) ?_
  refine imp ex_i64_b ?_
  exact fun hg => L47_0_ok n a0 a1 (0) false (a0.length : Int) R  hR n _ hg (weak_mem [] rfl rfl rfl (okW_cons (ent_lst (E := TTubeNode.E) _ false) (okW_cons (.inl (leV_refl _)) (okW_cons (.inl (leV_refl _)) (okW_cons (.inl (leV_refl _)) (okW_cons (.inl (leV_refl _)) (okW_cons (.inl (leV_refl _)) (okW_cons (.inl (leV_refl _)) (okW_cons (.inl (leV_refl _)) okW_nil)))))))) okB_nil')
theorem sg47 {n : Nat} {a0 : List TTubeNode} {a1 : Int} {t : ρ47} (h : g47 n a0 a1 = some t) : Says Tryd.prog KK.gl 47 [(lstA TTubeNode.E a0), (intA a1), (AV.fn 48 [])] ((AV.tup [(intA t.1), (boolA t.2)])) :=
  says_of_own (by first | rfl | simp [cleans, clean, encs_clean, En.cln]) (by first | rfl | simp [cleans, clean, encs_clean, En.cln]) (F47_own (lstA TTubeNode.E a0) a1 (AV.fn 48 []) _ (g47_ok n a0 a1 (Ans ((AV.tup [(intA t.1), (boolA t.2)]))) (fun r e u m h => by rw [e]; exact h) h))
/- skyway/num.DivDown -/
theorem g50_ok (n : Nat) (a0 : Int) (a1 : Int) {t : ρ50} (R : AV → Mem → Prop) (hR : ∀ r : ρ50, t = r → ∀ u m, Ans ((AV.tup [(intA r.1), (intA r.2)])) u m → R u m) : g50 n a0 a1 = some t → F50 a0 a1 R := by
  unfold g50 F50
  refine cond_b (fun _ => ?_) (fun _ => ?_)
  · exact fun hg => retN rfl (hR _ (Option.some.inj hg).symm) (fzL_cons (fz_sc _ _) (fzL_cons (fz_sc _ _) fzL_nil))
  · refine cond_b (fun _ => ?_) (fun _ => ?_)
    · refine cond_b (fun _ => ?_) (fun _ => ?_)
      · exact fun hg => retN rfl (hR _ (Option.some.inj hg).symm) (fzL_cons (fz_sc _ _) (fzL_cons (fz_sc _ _) fzL_nil))
      · refine bind_b fun x50 h50 => ?_
        refine imp (opP_of (show _ = some ((intA (IntKind.wrap .i64 x50)), []) from (opA_quo h50))) ?_
        refine imp ex_i64_b ?_
        refine bind_b fun x51 h51 => ?_
        refine imp (opP_of (show _ = some ((intA x51), []) from (opA_rem h51))) ?_
        refine imp ex_i64_b ?_
        refine cond_b (fun _ => ?_) (fun _ => ?_)
        · refine imp (opP_of (show _ = some ((boolA (!((decide (a0 < (0))) == (decide (a1 < (0)))))), []) from (by kernel_rfl))) ?_
          refine imp exB_b ?_
          refine cond_b (fun _ => ?_) (fun _ => ?_)
          · exact fun hg => retN rfl (hR _ (Option.some.inj hg).symm) (fzL_cons (fz_sc _ _) (fzL_cons (fz_sc _ _) fzL_nil))
          · exact fun hg => retN rfl (hR _ (Option.some.inj hg).symm) (fzL_cons (fz_sc _ _) (fzL_cons (fz_sc _ _) fzL_nil))
        · exact fun hg => retN rfl (hR _ (Option.some.inj hg).symm) (fzL_cons (fz_sc _ _) (fzL_cons (fz_sc _ _) fzL_nil))
    · refine bind_b fun x52 h52 => ?_
      refine imp (opP_of (show _ = some ((intA (IntKind.wrap .i64 x52)), []) from (opA_quo h52))) ?_
      refine imp ex_i64_b ?_
      refine bind_b fun x53 h53 => ?_
      refine imp (opP_of (show _ = some ((intA x53), []) from (opA_rem h53))) ?_
      refine imp ex_i64_b ?_
      refine cond_b (fun _ => ?_) (fun _ => ?_)
      · refine imp (opP_of (show _ = some ((boolA (!((decide (a0 < (0))) == (decide (a1 < (0)))))), []) from (by kernel_rfl))) ?_
        refine imp exB_b ?_
        refine cond_b (fun _ => ?_) (fun _ => ?_)
        · exact fun hg => retN rfl (hR _ (Option.some.inj hg).symm) (fzL_cons (fz_sc _ _) (fzL_cons (fz_sc _ _) fzL_nil))
        · exact fun hg => retN rfl (hR _ (Option.some.inj hg).symm) (fzL_cons (fz_sc _ _) (fzL_cons (fz_sc _ _) fzL_nil))
      · exact fun hg => retN rfl (hR _ (Option.some.inj hg).symm) (fzL_cons (fz_sc _ _) (fzL_cons (fz_sc _ _) fzL_nil))
theorem sg50 {n : Nat} {a0 : Int} {a1 : Int} {t : ρ50} (h : g50 n a0 a1 = some t) : Says Tryd.prog KK.gl 50 [(intA a0), (intA a1)] ((AV.tup [(intA t.1), (intA t.2)])) :=
  says_of_own (by first | rfl | simp [cleans, clean, encs_clean, En.cln]) (by first | rfl | simp [cleans, clean, encs_clean, En.cln]) (F50_own a0 a1 _ (g50_ok n a0 a1 (Ans ((AV.tup [(intA t.1), (intA t.2)]))) (fun r e u m h => by rw [e]; exact h) h))
/- skyway/plane.Toward -/
theorem g49_ok (n : Nat) (a0 : TP) (a1 : TP) (a2 : Int) (a3 : Int) {t : ρ49} (R : AV → Mem → Prop) (hR : ∀ r : ρ49, t = r → ∀ u m, Ans ((AV.tup [(AV.agg (TP.E.enc r.1)), (intA r.2)])) u m → R u m) : g49 n a0 a1 a2 a3 = some t → F49 a0.X a0.Y a1.X a1.Y a2 a3 R := by
  unfold g49 F49
  refine cond_b (fun _ => ?_) (fun _ => ?_)
  · refine imp (opP_of (show _ = some ((AV.agg [(intA (0)), (intA (0))]), []) from rfl)) ?_
    refine imp (storeW_cells (sz := 2) (by kernel_rfl) (by kernel_rfl) rfl rfl (cs := [(intA (0)), (intA (0))]) (cs' := [(intA (0)), (intA (0))]) (ty := 29) (by first | rfl | (simp (disch := first | decide | assumption) only [mpushs_nil, mpushs_cons, mget_hd, mget_tl, mget_appW_o, mget_appW_n, mget_appW_e])) rfl rfl) ?_
    exact fun hg => retN rfl (hR _ (Option.some.inj hg).symm) (fzL_cons (fz_el (E := TP.E) _ (⟨(0), (0)⟩ : TP)) (fzL_cons (fz_sc _ _) fzL_nil))
  · refine cond_b (fun _ => ?_) (fun _ => ?_)
    · refine imp (opP_of (show _ = some ((AV.agg [(intA (0)), (intA (0))]), []) from rfl)) ?_
      refine imp (storeW_cells (sz := 2) (by kernel_rfl) (by kernel_rfl) rfl rfl (cs := [(intA (0)), (intA (0))]) (cs' := [(intA (0)), (intA (0))]) (ty := 29) (by first | rfl | (simp (disch := first | decide | assumption) only [mpushs_nil, mpushs_cons, mget_hd, mget_tl, mget_appW_o, mget_appW_n, mget_appW_e])) rfl rfl) ?_
      exact fun hg => retN rfl (hR _ (Option.some.inj hg).symm) (fzL_cons (fz_el (E := TP.E) _ (⟨(0), (0)⟩ : TP)) (fzL_cons (fz_sc _ _) fzL_nil))
    · refine cond_b (fun _ => ?_) (fun _ => ?_)
      · refine imp (opP_of (show _ = some ((AV.agg [(intA (0)), (intA (0))]), []) from rfl)) ?_
        refine imp (storeW_cells (sz := 2) (by kernel_rfl) (by kernel_rfl) rfl rfl (cs := [(intA (0)), (intA (0))]) (cs' := [(intA (0)), (intA (0))]) (ty := 29) (by first | rfl | (simp (disch := first | decide | assumption) only [mpushs_nil, mpushs_cons, mget_hd, mget_tl, mget_appW_o, mget_appW_n, mget_appW_e])) rfl rfl) ?_
        exact fun hg => retN rfl (hR _ (Option.some.inj hg).symm) (fzL_cons (fz_el (E := TP.E) _ (⟨(0), (0)⟩ : TP)) (fzL_cons (fz_sc _ _) fzL_nil))
      · refine cond_b (fun _ => ?_) (fun _ => ?_)
        · refine imp (opP_of (show _ = some ((AV.agg [(intA (0)), (intA (0))]), []) from rfl)) ?_
          refine imp (storeW_cells (sz := 2) (by kernel_rfl) (by kernel_rfl) rfl rfl (cs := [(intA (0)), (intA (0))]) (cs' := [(intA (0)), (intA (0))]) (ty := 29) (by first | rfl | (simp (disch := first | decide | assumption) only [mpushs_nil, mpushs_cons, mget_hd, mget_tl, mget_appW_o, mget_appW_n, mget_appW_e])) rfl rfl) ?_
          exact fun hg => retN rfl (hR _ (Option.some.inj hg).symm) (fzL_cons (fz_el (E := TP.E) _ (⟨(0), (0)⟩ : TP)) (fzL_cons (fz_sc _ _) fzL_nil))
        · refine bind_b fun x46 h46 => ?_
          refine imp (callQ_says (sg30 h46)) ?_
          refine imp ex_i64_b ?_
          refine cond_b (fun _ => ?_) (fun _ => ?_)
          · refine imp (opP_of (show _ = some ((AV.agg [(intA (0)), (intA (0))]), []) from rfl)) ?_
            refine bind_b fun x47 h47 => ?_
            refine imp (callQ_says (sg30 h47)) ?_
            refine imp ex_i64_b ?_
            refine imp (storeW_cells (sz := 2) (by kernel_rfl) (by kernel_rfl) rfl rfl (cs := [(intA (0)), (intA (0))]) (cs' := [(intA (0)), (intA (0))]) (ty := 29) (by first | rfl | (simp (disch := first | decide | assumption) only [mpushs_nil, mpushs_cons, mget_hd, mget_tl, mget_appW_o, mget_appW_n, mget_appW_e])) rfl rfl) ?_
            exact fun hg => retN rfl (hR _ (Option.some.inj hg).symm) (fzL_cons (fz_el (E := TP.E) _ (⟨(0), (0)⟩ : TP)) (fzL_cons (fz_sc _ _) fzL_nil))
          · refine bind_b fun x48 h48 => ?_
            refine imp (callQ_says (sg30 h48)) ?_
            refine imp ex_i64_b ?_
            refine cond_b (fun _ => ?_) (fun _ => ?_)
            · refine imp (opP_of (show _ = some ((AV.agg [(intA (0)), (intA (0))]), []) from rfl)) ?_
              refine bind_b fun x49 h49 => ?_
              refine imp (callQ_says (sg30 h49)) ?_
              refine imp ex_i64_b ?_
              refine imp (storeW_cells (sz := 2) (by kernel_rfl) (by kernel_rfl) rfl rfl (cs := [(intA (0)), (intA (0))]) (cs' := [(intA (0)), (intA (0))]) (ty := 29) (by first | rfl | (simp (disch := first | decide | assumption) only [mpushs_nil, mpushs_cons, mget_hd, mget_tl, mget_appW_o, mget_appW_n, mget_appW_e])) rfl rfl) ?_
              exact fun hg => retN rfl (hR _ (Option.some.inj hg).symm) (fzL_cons (fz_el (E := TP.E) _ (⟨(0), (0)⟩ : TP)) (fzL_cons (fz_sc _ _) fzL_nil))
            · refine bind_b fun x54 h54 => ?_
              refine imp (callQ_says (sg50 h54)) ?_
              refine imp exT2_b ?_
              refine imp ex_i64_b ?_
              refine imp ex_i64_b ?_
              refine bind_b fun x55 h55 => ?_
              refine imp (callQ_says (sg50 h55)) ?_
              refine imp exT2_b ?_
              refine imp ex_i64_b ?_
              refine imp ex_i64_b ?_
              refine imp (opP_of (show _ = some ((AV.agg [(intA (IntKind.wrap .i64 (a0.X + x54.1))), (intA (IntKind.wrap .i64 (a0.Y + x55.1)))]), []) from rfl)) ?_
              refine imp (storeW_cells (sz := 2) (by kernel_rfl) (by kernel_rfl) rfl rfl (cs := [(intA (0)), (intA (0))]) (cs' := [(intA (IntKind.wrap .i64 (a0.X + x54.1))), (intA (IntKind.wrap .i64 (a0.Y + x55.1)))]) (ty := 29) (by first | rfl | (simp (disch := first | decide | assumption) only [mpushs_nil, mpushs_cons, mget_hd, mget_tl, mget_appW_o, mget_appW_n, mget_appW_e])) rfl rfl) ?_
              exact fun hg => retN rfl (hR _ (Option.some.inj hg).symm) (fzL_cons (fz_el (E := TP.E) _ (⟨(IntKind.wrap .i64 (a0.X + x54.1)), (IntKind.wrap .i64 (a0.Y + x55.1))⟩ : TP)) (fzL_cons (fz_sc _ _) fzL_nil))
theorem sg49 {n : Nat} {a0 : TP} {a1 : TP} {a2 : Int} {a3 : Int} {t : ρ49} (h : g49 n a0 a1 a2 a3 = some t) : Says Tryd.prog KK.gl 49 [(AV.agg [(intA a0.X), (intA a0.Y)]), (AV.agg [(intA a1.X), (intA a1.Y)]), (intA a2), (intA a3)] ((AV.tup [(AV.agg (TP.E.enc t.1)), (intA t.2)])) :=
  says_of_own (by first | rfl | simp [cleans, clean, encs_clean, En.cln]) (by first | rfl | simp [cleans, clean, encs_clean, En.cln]) (F49_own a0.X a0.Y a1.X a1.Y a2 a3 _ (g49_ok n a0 a1 a2 a3 (Ans ((AV.tup [(AV.agg (TP.E.enc t.1)), (intA t.2)]))) (fun r e u m h => by rw [e]; exact h) h))
/- skyway/num.DivUp -/
theorem g36_ok (n : Nat) (a0 : Int) (a1 : Int) {t : ρ36} (R : AV → Mem → Prop) (hR : ∀ r : ρ36, t = r → ∀ u m, Ans ((AV.tup [(intA r.1), (intA r.2)])) u m → R u m) : g36 n a0 a1 = some t → F36 a0 a1 R := by
  unfold g36 F36
  refine bind_b fun x58 h58 => ?_
  refine imp (callQ_says (sg50 h58)) ?_
  refine imp exT2_b ?_
  refine imp ex_i64_b ?_
  refine imp ex_i64_b ?_
  refine cond_b (fun _ => ?_) (fun _ => ?_)
  · refine bind_b fun x59 h59 => ?_
    refine imp (opP_of (show _ = some ((intA x59), []) from (opA_rem h59))) ?_
    refine imp ex_i64_b ?_
    refine cond_b (fun _ => ?_) (fun _ => ?_)
    · exact fun hg => retN rfl (hR _ (Option.some.inj hg).symm) (fzL_cons (fz_sc _ _) (fzL_cons (fz_sc _ _) fzL_nil))
    · exact fun hg => retN rfl (hR _ (Option.some.inj hg).symm) (fzL_cons (fz_sc _ _) (fzL_cons (fz_sc _ _) fzL_nil))
  · exact fun hg => retN rfl (hR _ (Option.some.inj hg).symm) (fzL_cons (fz_sc _ _) (fzL_cons (fz_sc _ _) fzL_nil))
theorem sg36 {n : Nat} {a0 : Int} {a1 : Int} {t : ρ36} (h : g36 n a0 a1 = some t) : Says Tryd.prog KK.gl 36 [(intA a0), (intA a1)] ((AV.tup [(intA t.1), (intA t.2)])) :=
  says_of_own (by first | rfl | simp [cleans, clean, encs_clean, En.cln]) (by first | rfl | simp [cleans, clean, encs_clean, En.cln]) (F36_own a0 a1 _ (g36_ok n a0 a1 (Ans ((AV.tup [(intA t.1), (intA t.2)]))) (fun r e u m h => by rw [e]; exact h) h))
/- skyway/tube.at -/
theorem g35_ok (n : Nat) (a0 : List TTubeNode) (a1 : Int) {t : ρ35} (R : AV → Mem → Prop) (hR : ∀ r : ρ35, t = r → ∀ u m, Ans ((AV.agg (TTubeNode.E.enc r))) u m → R u m) : g35 n a0 a1 = some t → F35 (lstA TTubeNode.E a0) a1 R := by
  unfold g35 F35
  refine bind_b fun x42 h42 => ?_
  refine imp (callW_says (sg47 h42)) ?_
  refine imp exT2_b ?_
  refine imp ex_i64_b ?_
  refine imp exB_b ?_
  refine cond_b (fun _ => ?_) (fun _ => ?_)
  · refine bind_b fun x43 h43 => ?_
    refine imp (opP_of (show _ = some ((AV.ept [(intA x43.Node_Time), (intA x43.Node_At_X), (intA x43.Node_At_Y), (intA x43.Node_Height), (intA x43.Radius), (intA x43.Band)] 0), []) from (idx_lst (E := TTubeNode.E) rfl h43))) ?_
    refine imp (opP_of (show _ = some ((AV.agg [(intA x43.Node_Time), (intA x43.Node_At_X), (intA x43.Node_At_Y), (intA x43.Node_Height), (intA x43.Radius), (intA x43.Band)]), []) from rfl)) ?_
    refine imp exA6_b ?_
    refine imp ex_i64_b ?_
    refine imp ex_i64_b ?_
    refine imp ex_i64_b ?_
    refine imp ex_i64_b ?_
    refine imp ex_i64_b ?_
    refine imp ex_i64_b ?_
    refine imp (storeW_cells (sz := 6) (by kernel_rfl) (by kernel_rfl) rfl rfl (cs := [(intA (0)), (intA (0)), (intA (0)), (intA (0)), (intA (0)), (intA (0))]) (cs' := [(intA x43.Node_Time), (intA x43.Node_At_X), (intA x43.Node_At_Y), (intA x43.Node_Height), (intA x43.Radius), (intA x43.Band)]) (ty := 40) (by first | rfl | (simp (disch := first | decide | assumption) only [mpushs_nil, mpushs_cons, mget_hd, mget_tl, mget_appW_o, mget_appW_n, mget_appW_e])) rfl rfl) ?_
    exact fun hg => ret1 (hR _ (Option.some.inj hg).symm) (fz_el (E := TTubeNode.E) _ x43)
  · refine bind_b fun x44 h44 => ?_
    refine imp (opM_of (show _ = some ((AV.ept [(intA x44.Node_Time), (intA x44.Node_At_X), (intA x44.Node_At_Y), (intA x44.Node_Height), (intA x44.Radius), (intA x44.Band)] 0), []) from (idx_lst (E := TTubeNode.E) rfl h44))) ?_
    refine imp (opM_of (show _ = some ((AV.agg [(intA x44.Node_Time), (intA x44.Node_At_X), (intA x44.Node_At_Y), (intA x44.Node_Height), (intA x44.Radius), (intA x44.Band)]), []) from rfl)) ?_
    refine imp exA6_b ?_
    refine imp ex_i64_b ?_
    refine imp ex_i64_b ?_
    refine imp ex_i64_b ?_
    refine imp ex_i64_b ?_
    refine imp ex_i64_b ?_
    refine imp ex_i64_b ?_
    refine bind_b fun x45 h45 => ?_
    refine imp (opM_of (show _ = some ((AV.ept [(intA x45.Node_Time), (intA x45.Node_At_X), (intA x45.Node_At_Y), (intA x45.Node_Height), (intA x45.Radius), (intA x45.Band)] 0), []) from (idx_lst (E := TTubeNode.E) rfl h45))) ?_
    refine imp (opM_of (show _ = some ((AV.agg [(intA x45.Node_Time), (intA x45.Node_At_X), (intA x45.Node_At_Y), (intA x45.Node_Height), (intA x45.Radius), (intA x45.Band)]), []) from rfl)) ?_
    refine imp exA6_b ?_
    refine imp ex_i64_b ?_
    refine imp ex_i64_b ?_
    refine imp ex_i64_b ?_
    refine imp ex_i64_b ?_
    refine imp ex_i64_b ?_
    refine imp ex_i64_b ?_
    refine imp (storeW_cells (sz := 6) (by kernel_rfl) (by kernel_rfl) rfl rfl (cs := [(intA (0)), (intA (0)), (intA (0)), (intA (0)), (intA (0)), (intA (0))]) (cs' := [(intA x44.Node_Time), (intA x44.Node_At_X), (intA x44.Node_At_Y), (intA x44.Node_Height), (intA x44.Radius), (intA x44.Band)]) (ty := 40) (by first | rfl | (rw [look'_mem (by first | rfl | simp [topId_blk] | simp [topId])]; first | rfl | (simp (disch := first | decide | assumption) only [mpushs_nil, mpushs_cons, mget_hd, mget_tl, mget_appW_o, mget_appW_n, mget_appW_e]))) rfl rfl) ?_
    refine imp (storeW_cells (sz := 6) (by kernel_rfl) (by kernel_rfl) rfl rfl (cs := [(intA (0)), (intA (0)), (intA (0)), (intA (0)), (intA (0)), (intA (0))]) (cs' := [(intA x45.Node_Time), (intA x45.Node_At_X), (intA x45.Node_At_Y), (intA x45.Node_Height), (intA x45.Radius), (intA x45.Band)]) (ty := 40) (by first | rfl | (rw [look'_mem (by first | rfl | simp [topId_blk] | simp [topId])]; first | rfl | (simp (disch := first | decide | assumption) only [mpushs_nil, mpushs_cons, mget_hd, mget_tl, mget_appW_o, mget_appW_n, mget_appW_e]))) rfl rfl) ?_
    refine imp (chk_of (by kernel_rfl)) ?_
    refine imp (opP_of (show _ = some ((intA x44.Node_Time), []) from (ldS_ptr (b := ⟨[(intA x44.Node_Time), (intA x44.Node_At_X), (intA x44.Node_At_Y), (intA x44.Node_Height), (intA x44.Radius), (intA x44.Band)], 40⟩) (by first | rfl | (simp (disch := first | decide | assumption) only [mpushs_nil, mpushs_cons, mget_hd, mget_tl, mget_appW_o, mget_appW_n, mget_appW_e])) rfl))) ?_
    refine imp ex_i64_b ?_
    refine imp (opP_of (show _ = some ((intA x45.Node_Time), []) from (ldS_ptr (b := ⟨[(intA x45.Node_Time), (intA x45.Node_At_X), (intA x45.Node_At_Y), (intA x45.Node_Height), (intA x45.Radius), (intA x45.Band)], 40⟩) (by first | rfl | (simp (disch := first | decide | assumption) only [mpushs_nil, mpushs_cons, mget_hd, mget_tl, mget_appW_o, mget_appW_n, mget_appW_e])) rfl))) ?_
    refine imp ex_i64_b ?_
    refine imp (opP_of (show _ = some ((intA x44.Node_Time), []) from (ldS_ptr (b := ⟨[(intA x44.Node_Time), (intA x44.Node_At_X), (intA x44.Node_At_Y), (intA x44.Node_Height), (intA x44.Radius), (intA x44.Band)], 40⟩) (by first | rfl | (simp (disch := first | decide | assumption) only [mpushs_nil, mpushs_cons, mget_hd, mget_tl, mget_appW_o, mget_appW_n, mget_appW_e])) rfl))) ?_
    refine imp ex_i64_b ?_
    refine imp (opP_of (show _ = some ((AV.agg [(intA x44.Node_At_X), (intA x44.Node_At_Y)]), []) from (ldA_ptr (b := ⟨[(intA x44.Node_Time), (intA x44.Node_At_X), (intA x44.Node_At_Y), (intA x44.Node_Height), (intA x44.Radius), (intA x44.Band)], 40⟩) (by first | rfl | (simp (disch := first | decide | assumption) only [mpushs_nil, mpushs_cons, mget_hd, mget_tl, mget_appW_o, mget_appW_n, mget_appW_e])) rfl))) ?_
    refine imp exA2_b ?_
    refine imp ex_i64_b ?_
    refine imp ex_i64_b ?_
    refine imp (opP_of (show _ = some ((AV.agg [(intA x45.Node_At_X), (intA x45.Node_At_Y)]), []) from (ldA_ptr (b := ⟨[(intA x45.Node_Time), (intA x45.Node_At_X), (intA x45.Node_At_Y), (intA x45.Node_Height), (intA x45.Radius), (intA x45.Band)], 40⟩) (by first | rfl | (simp (disch := first | decide | assumption) only [mpushs_nil, mpushs_cons, mget_hd, mget_tl, mget_appW_o, mget_appW_n, mget_appW_e])) rfl))) ?_
    refine imp exA2_b ?_
    refine imp ex_i64_b ?_
    refine imp ex_i64_b ?_
    refine bind_b fun x56 h56 => ?_
    refine imp (callQ_says (sg49 h56)) ?_
    refine imp exT2_b ?_
    refine imp exA2_b ?_
    refine imp ex_i64_b ?_
    refine imp ex_i64_b ?_
    refine imp ex_i64_b ?_
    refine imp (opP_of (show _ = some ((intA x45.Node_Height), []) from (ldS_ptr (b := ⟨[(intA x45.Node_Time), (intA x45.Node_At_X), (intA x45.Node_At_Y), (intA x45.Node_Height), (intA x45.Radius), (intA x45.Band)], 40⟩) (by first | rfl | (simp (disch := first | decide | assumption) only [mpushs_nil, mpushs_cons, mget_hd, mget_tl, mget_appW_o, mget_appW_n, mget_appW_e])) rfl))) ?_
    refine imp ex_i64_b ?_
    refine imp (opP_of (show _ = some ((intA x44.Node_Height), []) from (ldS_ptr (b := ⟨[(intA x44.Node_Time), (intA x44.Node_At_X), (intA x44.Node_At_Y), (intA x44.Node_Height), (intA x44.Radius), (intA x44.Band)], 40⟩) (by first | rfl | (simp (disch := first | decide | assumption) only [mpushs_nil, mpushs_cons, mget_hd, mget_tl, mget_appW_o, mget_appW_n, mget_appW_e])) rfl))) ?_
    refine imp ex_i64_b ?_
    refine bind_b fun x57 h57 => ?_
    refine imp (callQ_says (sg50 h57)) ?_
    refine imp exT2_b ?_
    refine imp ex_i64_b ?_
    refine imp ex_i64_b ?_
    refine imp (opP_of (show _ = some ((intA x45.Radius), []) from (ldS_ptr (b := ⟨[(intA x45.Node_Time), (intA x45.Node_At_X), (intA x45.Node_At_Y), (intA x45.Node_Height), (intA x45.Radius), (intA x45.Band)], 40⟩) (by first | rfl | (simp (disch := first | decide | assumption) only [mpushs_nil, mpushs_cons, mget_hd, mget_tl, mget_appW_o, mget_appW_n, mget_appW_e])) rfl))) ?_
    refine imp ex_i64_b ?_
    refine imp (opP_of (show _ = some ((intA x44.Radius), []) from (ldS_ptr (b := ⟨[(intA x44.Node_Time), (intA x44.Node_At_X), (intA x44.Node_At_Y), (intA x44.Node_Height), (intA x44.Radius), (intA x44.Band)], 40⟩) (by first | rfl | (simp (disch := first | decide | assumption) only [mpushs_nil, mpushs_cons, mget_hd, mget_tl, mget_appW_o, mget_appW_n, mget_appW_e])) rfl))) ?_
    refine imp ex_i64_b ?_
    refine bind_b fun x60 h60 => ?_
    refine imp (callQ_says (sg36 h60)) ?_
    refine imp exT2_b ?_
    refine imp ex_i64_b ?_
    refine imp ex_i64_b ?_
    refine imp (opP_of (show _ = some ((intA x45.Band), []) from (ldS_ptr (b := ⟨[(intA x45.Node_Time), (intA x45.Node_At_X), (intA x45.Node_At_Y), (intA x45.Node_Height), (intA x45.Radius), (intA x45.Band)], 40⟩) (by first | rfl | (simp (disch := first | decide | assumption) only [mpushs_nil, mpushs_cons, mget_hd, mget_tl, mget_appW_o, mget_appW_n, mget_appW_e])) rfl))) ?_
    refine imp ex_i64_b ?_
    refine imp (opP_of (show _ = some ((intA x44.Band), []) from (ldS_ptr (b := ⟨[(intA x44.Node_Time), (intA x44.Node_At_X), (intA x44.Node_At_Y), (intA x44.Node_Height), (intA x44.Radius), (intA x44.Band)], 40⟩) (by first | rfl | (simp (disch := first | decide | assumption) only [mpushs_nil, mpushs_cons, mget_hd, mget_tl, mget_appW_o, mget_appW_n, mget_appW_e])) rfl))) ?_
    refine imp ex_i64_b ?_
    refine bind_b fun x61 h61 => ?_
    refine imp (callQ_says (sg36 h61)) ?_
    refine imp exT2_b ?_
    refine imp ex_i64_b ?_
    refine imp ex_i64_b ?_
    refine imp (opP_of (show _ = some ((intA x44.Node_Height), []) from (ldS_ptr (b := ⟨[(intA x44.Node_Time), (intA x44.Node_At_X), (intA x44.Node_At_Y), (intA x44.Node_Height), (intA x44.Radius), (intA x44.Band)], 40⟩) (by first | rfl | (simp (disch := first | decide | assumption) only [mpushs_nil, mpushs_cons, mget_hd, mget_tl, mget_appW_o, mget_appW_n, mget_appW_e])) rfl))) ?_
    refine imp ex_i64_b ?_
    refine imp (opP_of (show _ = some ((AV.agg [(intA a1), (intA x56.1.X), (intA x56.1.Y), (intA (IntKind.wrap .i64 (x44.Node_Height + x57.1)))]), []) from rfl)) ?_
    refine imp (opP_of (show _ = some ((intA x44.Radius), []) from (ldS_ptr (b := ⟨[(intA x44.Node_Time), (intA x44.Node_At_X), (intA x44.Node_At_Y), (intA x44.Node_Height), (intA x44.Radius), (intA x44.Band)], 40⟩) (by first | rfl | (simp (disch := first | decide | assumption) only [mpushs_nil, mpushs_cons, mget_hd, mget_tl, mget_appW_o, mget_appW_n, mget_appW_e])) rfl))) ?_
    refine imp ex_i64_b ?_
    refine imp (opP_of (show _ = some ((intA x44.Band), []) from (ldS_ptr (b := ⟨[(intA x44.Node_Time), (intA x44.Node_At_X), (intA x44.Node_At_Y), (intA x44.Node_Height), (intA x44.Radius), (intA x44.Band)], 40⟩) (by first | rfl | (simp (disch := first | decide | assumption) only [mpushs_nil, mpushs_cons, mget_hd, mget_tl, mget_appW_o, mget_appW_n, mget_appW_e])) rfl))) ?_
    refine imp ex_i64_b ?_
    refine imp (opP_of (show _ = some ((AV.agg [(intA a1), (intA x56.1.X), (intA x56.1.Y), (intA (IntKind.wrap .i64 (x44.Node_Height + x57.1))), (intA (IntKind.wrap .i64 (x44.Radius + x60.1))), (intA (IntKind.wrap .i64 (x44.Band + x61.1)))]), []) from rfl)) ?_
    refine imp (storeW_cells (sz := 6) (by kernel_rfl) (by kernel_rfl) rfl rfl (cs := [(intA (0)), (intA (0)), (intA (0)), (intA (0)), (intA (0)), (intA (0))]) (cs' := [(intA a1), (intA x56.1.X), (intA x56.1.Y), (intA (IntKind.wrap .i64 (x44.Node_Height + x57.1))), (intA (IntKind.wrap .i64 (x44.Radius + x60.1))), (intA (IntKind.wrap .i64 (x44.Band + x61.1)))]) (ty := 40) (by first | rfl | (simp (disch := first | decide | assumption) only [mpushs_nil, mpushs_cons, mget_hd, mget_tl, mget_appW_o, mget_appW_n, mget_appW_e])) rfl rfl) ?_
    exact fun hg => ret1 (hR _ (Option.some.inj hg).symm) (fz_el (E := TTubeNode.E) _ (⟨a1, x56.1.X, x56.1.Y, (IntKind.wrap .i64 (x44.Node_Height + x57.1)), (IntKind.wrap .i64 (x44.Radius + x60.1)), (IntKind.wrap .i64 (x44.Band + x61.1))⟩ : TTubeNode))
theorem sg35 {n : Nat} {a0 : List TTubeNode} {a1 : Int} {t : ρ35} (h : g35 n a0 a1 = some t) : Says Tryd.prog KK.gl 35 [(lstA TTubeNode.E a0), (intA a1)] ((AV.agg (TTubeNode.E.enc t))) :=
  says_of_own (by first | rfl | simp [cleans, clean, encs_clean, En.cln]) (by first | rfl | simp [cleans, clean, encs_clean, En.cln]) (F35_own (lstA TTubeNode.E a0) a1 _ (g35_ok n a0 a1 (Ans ((AV.agg (TTubeNode.E.enc t)))) (fun r e u m h => by rw [e]; exact h) h))
/- skyway/tube.At -/
theorem g13_ok (n : Nat) (a0 : List TTubeNode) (a1 : Int) {t : ρ13} (R : AV → Mem → Prop) (hR : ∀ r : ρ13, t = r → ∀ u m, Ans ((AV.tup [(AV.agg (TTubeNode.E.enc r.1)), (intA r.2)])) u m → R u m) : g13 n a0 a1 = some t → F13 (lstA TTubeNode.E a0) a1 R := by
  unfold g13 F13
  refine bind_b fun x34 h34 => ?_
  refine imp (callQ_says (sg12 h34)) ?_
  refine imp ex_i64_b ?_
  refine cond_b (fun _ => ?_) (fun _ => ?_)
  · refine imp (opP_of (show _ = some ((AV.agg [(intA (0)), (intA (0)), (intA (0)), (intA (0)), (intA (0)), (intA (0))]), []) from rfl)) ?_
    refine imp (storeW_cells (sz := 6) (by kernel_rfl) (by kernel_rfl) rfl rfl (cs := [(intA (0)), (intA (0)), (intA (0)), (intA (0)), (intA (0)), (intA (0))]) (cs' := [(intA (0)), (intA (0)), (intA (0)), (intA (0)), (intA (0)), (intA (0))]) (ty := 40) (by first | rfl | (simp (disch := first | decide | assumption) only [mpushs_nil, mpushs_cons, mget_hd, mget_tl, mget_appW_o, mget_appW_n, mget_appW_e])) rfl rfl) ?_
    exact fun hg => retN rfl (hR _ (Option.some.inj hg).symm) (fzL_cons (fz_el (E := TTubeNode.E) _ (⟨(0), (0), (0), (0), (0), (0)⟩ : TTubeNode)) (fzL_cons (fz_sc _ _) fzL_nil))
  · refine bind_b fun x37 h37 => ?_
    refine imp (callQ_says (sg34 h37)) ?_
    refine imp exT2_b ?_
    refine imp ex_i64_b ?_
    refine imp ex_i64_b ?_
    refine cond_b (fun _ => ?_) (fun _ => ?_)
    · refine imp (opP_of (show _ = some ((AV.agg [(intA (0)), (intA (0)), (intA (0)), (intA (0)), (intA (0)), (intA (0))]), []) from rfl)) ?_
      refine imp (storeW_cells (sz := 6) (by kernel_rfl) (by kernel_rfl) rfl rfl (cs := [(intA (0)), (intA (0)), (intA (0)), (intA (0)), (intA (0)), (intA (0))]) (cs' := [(intA (0)), (intA (0)), (intA (0)), (intA (0)), (intA (0)), (intA (0))]) (ty := 40) (by first | rfl | (simp (disch := first | decide | assumption) only [mpushs_nil, mpushs_cons, mget_hd, mget_tl, mget_appW_o, mget_appW_n, mget_appW_e])) rfl rfl) ?_
      exact fun hg => retN rfl (hR _ (Option.some.inj hg).symm) (fzL_cons (fz_el (E := TTubeNode.E) _ (⟨(0), (0), (0), (0), (0), (0)⟩ : TTubeNode)) (fzL_cons (fz_sc _ _) fzL_nil))
    · refine cond_b (fun _ => ?_) (fun _ => ?_)
      · refine imp (opP_of (show _ = some ((AV.agg [(intA (0)), (intA (0)), (intA (0)), (intA (0)), (intA (0)), (intA (0))]), []) from rfl)) ?_
        refine imp (storeW_cells (sz := 6) (by kernel_rfl) (by kernel_rfl) rfl rfl (cs := [(intA (0)), (intA (0)), (intA (0)), (intA (0)), (intA (0)), (intA (0))]) (cs' := [(intA (0)), (intA (0)), (intA (0)), (intA (0)), (intA (0)), (intA (0))]) (ty := 40) (by first | rfl | (simp (disch := first | decide | assumption) only [mpushs_nil, mpushs_cons, mget_hd, mget_tl, mget_appW_o, mget_appW_n, mget_appW_e])) rfl rfl) ?_
        exact fun hg => retN rfl (hR _ (Option.some.inj hg).symm) (fzL_cons (fz_el (E := TTubeNode.E) _ (⟨(0), (0), (0), (0), (0), (0)⟩ : TTubeNode)) (fzL_cons (fz_sc _ _) fzL_nil))
      · refine bind_b fun x62 h62 => ?_
        refine imp (callQ_says (sg35 h62)) ?_
        refine imp exA6_b ?_
        refine imp ex_i64_b ?_
        refine imp ex_i64_b ?_
        refine imp ex_i64_b ?_
        refine imp ex_i64_b ?_
        refine imp ex_i64_b ?_
        refine imp ex_i64_b ?_
        exact fun hg => retN rfl (hR _ (Option.some.inj hg).symm) (fzL_cons (fz_el (E := TTubeNode.E) _ x62) (fzL_cons (fz_sc _ _) fzL_nil))
theorem sg13 {n : Nat} {a0 : List TTubeNode} {a1 : Int} {t : ρ13} (h : g13 n a0 a1 = some t) : Says Tryd.prog KK.gl 13 [(lstA TTubeNode.E a0), (intA a1)] ((AV.tup [(AV.agg (TTubeNode.E.enc t.1)), (intA t.2)])) :=
  says_of_own (by first | rfl | simp [cleans, clean, encs_clean, En.cln]) (by first | rfl | simp [cleans, clean, encs_clean, En.cln]) (F13_own (lstA TTubeNode.E a0) a1 _ (g13_ok n a0 a1 (Ans ((AV.tup [(AV.agg (TTubeNode.E.enc t.1)), (intA t.2)]))) (fun r e u m h => by rw [e]; exact h) h))
/- skyway/aircraft.Climb -/
theorem g15_ok (n : Nat) (a0 : TKind) (a1 : Int) (a2 : Int) {t : ρ15} (R : AV → Mem → Prop) (hR : ∀ r : ρ15, t = r → ∀ u m, Ans ((AV.tup [(intA r.1), (intA r.2)])) u m → R u m) : g15 n a0 a1 a2 = some t → F15 a0.Name a0.Wake a0.Ceiling a0.Climb a0.Descent a0.Slow a0.Fast a1 a2 R := by
  unfold g15 F15
  refine bind_b fun x71 h71 => ?_
  refine imp (callQ_says (sg28 h71)) ?_
  refine imp ex_i64_b ?_
  refine cond_b (fun _ => ?_) (fun _ => ?_)
  · exact fun hg => retN rfl (hR _ (Option.some.inj hg).symm) (fzL_cons (fz_sc _ _) (fzL_cons (fz_sc _ _) fzL_nil))
  · refine cond_b (fun _ => ?_) (fun _ => ?_)
    · exact fun hg => retN rfl (hR _ (Option.some.inj hg).symm) (fzL_cons (fz_sc _ _) (fzL_cons (fz_sc _ _) fzL_nil))
    · refine cond_b (fun _ => ?_) (fun _ => ?_)
      · exact fun hg => retN rfl (hR _ (Option.some.inj hg).symm) (fzL_cons (fz_sc _ _) (fzL_cons (fz_sc _ _) fzL_nil))
      · refine cond_b (fun _ => ?_) (fun _ => ?_)
        · exact fun hg => retN rfl (hR _ (Option.some.inj hg).symm) (fzL_cons (fz_sc _ _) (fzL_cons (fz_sc _ _) fzL_nil))
        · refine cond_b (fun _ => ?_) (fun _ => ?_)
          · exact fun hg => retN rfl (hR _ (Option.some.inj hg).symm) (fzL_cons (fz_sc _ _) (fzL_cons (fz_sc _ _) fzL_nil))
          · refine cond_b (fun _ => ?_) (fun _ => ?_)
            · exact fun hg => retN rfl (hR _ (Option.some.inj hg).symm) (fzL_cons (fz_sc _ _) (fzL_cons (fz_sc _ _) fzL_nil))
            · refine cond_b (fun _ => ?_) (fun _ => ?_)
              · exact fun hg => retN rfl (hR _ (Option.some.inj hg).symm) (fzL_cons (fz_sc _ _) (fzL_cons (fz_sc _ _) fzL_nil))
              · refine cond_b (fun _ => ?_) (fun _ => ?_)
                · refine bind_b fun x72 h72 => ?_
                  refine imp (callQ_says (sg36 h72)) ?_
                  refine imp exT2_b ?_
                  refine imp ex_i64_b ?_
                  refine imp ex_i64_b ?_
                  exact fun hg => retN rfl (hR _ (Option.some.inj hg).symm) (fzL_cons (fz_sc _ _) (fzL_cons (fz_sc _ _) fzL_nil))
                · refine bind_b fun x73 h73 => ?_
                  refine imp (callQ_says (sg36 h73)) ?_
                  refine imp exT2_b ?_
                  refine imp ex_i64_b ?_
                  refine imp ex_i64_b ?_
                  exact fun hg => retN rfl (hR _ (Option.some.inj hg).symm) (fzL_cons (fz_sc _ _) (fzL_cons (fz_sc _ _) fzL_nil))
theorem sg15 {n : Nat} {a0 : TKind} {a1 : Int} {a2 : Int} {t : ρ15} (h : g15 n a0 a1 a2 = some t) : Says Tryd.prog KK.gl 15 [(AV.agg [(strA a0.Name), (intA a0.Wake), (intA a0.Ceiling), (intA a0.Climb), (intA a0.Descent), (intA a0.Slow), (intA a0.Fast)]), (intA a1), (intA a2)] ((AV.tup [(intA t.1), (intA t.2)])) :=
  says_of_own (by first | rfl | simp [cleans, clean, encs_clean, En.cln]) (by first | rfl | simp [cleans, clean, encs_clean, En.cln]) (F15_own a0.Name a0.Wake a0.Ceiling a0.Climb a0.Descent a0.Slow a0.Fast a1 a2 _ (g15_ok n a0 a1 a2 (Ans ((AV.tup [(intA t.1), (intA t.2)]))) (fun r e u m h => by rw [e]; exact h) h))
/- (skyway/effect.task).height$1 -/
theorem g54_ok (n : Nat) (a0 : TTubeNode) (a1_0 : Int) {t : ρ54} (R : AV → Mem → Prop) (hR : ∀ r : ρ54, t = r → ∀ u m, Ans ((boolA r)) u m → R u m) : g54 n a0 a1_0 = some t → F54 a0.Node_Time a0.Node_At_X a0.Node_At_Y a0.Node_Height a0.Radius a0.Band (AV.ept [(intA a1_0)] 0) R := by
  unfold g54 F54
  refine imp (opP_of (show _ = some ((intA a1_0), []) from rfl)) ?_
  refine imp ex_i64_b ?_
  exact fun hg => ret1 (hR _ (Option.some.inj hg).symm) (fz_sc _ _)
theorem sg54 {n : Nat} {a0 : TTubeNode} {a1_0 : Int} {t : ρ54} (h : g54 n a0 a1_0 = some t) : Says Tryd.prog KK.gl 54 [(AV.agg [(intA a0.Node_Time), (intA a0.Node_At_X), (intA a0.Node_At_Y), (intA a0.Node_Height), (intA a0.Radius), (intA a0.Band)]), (AV.ept [(intA a1_0)] 0)] ((boolA t)) :=
  says_of_own (by first | rfl | simp [cleans, clean, encs_clean, En.cln]) (by first | rfl | simp [cleans, clean, encs_clean, En.cln]) (F54_own a0.Node_Time a0.Node_At_X a0.Node_At_Y a0.Node_Height a0.Radius a0.Band (AV.ept [(intA a1_0)] 0) _ (g54_ok n a0 a1_0 (Ans ((boolA t))) (fun r e u m h => by rw [e]; exact h) h))
end Go.Proofs.YtpjepkldnnfncaaDoor
