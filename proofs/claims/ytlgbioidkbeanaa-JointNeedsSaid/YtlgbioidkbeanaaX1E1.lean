/- Plain functional programs out of the program's functions, with proofs that the functions compute them; printed by wip/Ext.lean.txt. -/
import Derived.Test.YtlgbioidkbeanaaX1G
import Derived.Test.YtlgbioidkbeanaaX1F1
import Derived.Test.YtlgbioidkbeanaaX1S
set_option linter.unusedVariables false
set_option linter.unusedSimpArgs false
set_option maxRecDepth 100000
set_option maxHeartbeats 4000000
namespace Go.Proofs.Ytlgbioidkbeanaa
theorem cloneC17 {n : Nat} {look : Nat → Option ABlk} {l : List TJointRefuted} {u : Unit} (h : roomO l.length 32 = some u) : PureD Try.prog KK.gl look n 17 [lstA TJointRefuted.E l] (ownV TJointRefuted.E n l) [(n, ownB TJointRefuted.E 49 l)] :=
  made_ownC (by simp [cleans, clean, encs_clean]) (F17_own _ _ (by
    unfold F17
    exact clone_ok (E := TJointRefuted.E) rfl rfl h))
theorem cloneC13 {n : Nat} {look : Nat → Option ABlk} {l : List (List TJointOption)} {u : Unit} (h : roomO l.length 24 = some u) : PureD Try.prog KK.gl look n 13 [lstA (lstE TJointOption.E) l] (ownV (lstE TJointOption.E) n l) [(n, ownB (lstE TJointOption.E) 43 l)] :=
  made_ownC (by simp [cleans, clean, encs_clean]) (F13_own _ _ (by
    unfold F13
    exact clone_ok (E := (lstE TJointOption.E)) rfl rfl h))
theorem cloneC15 {n : Nat} {look : Nat → Option ABlk} {l : List TJointOption} {u : Unit} (h : roomO l.length 32 = some u) : PureD Try.prog KK.gl look n 15 [lstA TJointOption.E l] (ownV TJointOption.E n l) [(n, ownB TJointOption.E 39 l)] :=
  made_ownC (by simp [cleans, clean, encs_clean]) (F15_own _ _ (by
    unfold F15
    exact clone_ok (E := TJointOption.E) rfl rfl h))
theorem cloneC30 {n : Nat} {look : Nat → Option ABlk} {l : List Int} {u : Unit} (h : roomO l.length 8 = some u) : PureD Try.prog KK.gl look n 30 [lstA intE l] (ownV intE n l) [(n, ownB intE 3 l)] :=
  made_ownC (by simp [cleans, clean, encs_clean]) (F30_own _ _ (by
    unfold F30
    exact clone_ok (E := intE) rfl rfl h))
theorem cloneS30 {n : Nat} {look : Nat → Option ABlk} {args : List AV} {l : List Int} {u : Unit} (h : roomO l.length 8 = some u) (hs : SnL look 6 args [lstA intE l]) : PureD Try.prog KK.gl look n 30 args (ownV intE n l) [(n, ownB intE 3 l)] :=
  made_ownS (fun _ => rfl) hs (F30_own _ _ (by
    unfold F30
    exact clone_ok (E := intE) rfl rfl h))
theorem del16o {n id : Nat} {look : Nat → Option ABlk} {L Y : List (Raw TJointRefuted.E)} {i j : Int} (hb : look id = ownB (EnO TJointRefuted.E) 49 L) (h : delO 32 L i j = some Y) : PureD Try.prog KK.gl look n 16 [ownV (EnO TJointRefuted.E) id L, intA i, intA j] (blkW (EnO TJointRefuted.E) n Y) [(n, some ⟨encs (EnO TJointRefuted.E) Y, 49⟩), (id, none)] :=
  del_mk EnO.sc rfl hb h fun a b r1 r2 h1 h2 => F16_1_call _ _ _ _ _ (by
    unfold F16_1
    exact delete_ok (by kernel_rfl) (by kernel_rfl) rfl rfl (by kernel_rfl) rfl r1 r2 h1 h2 _ (fun _ _ h => h) _ rfl _ rfl _ _ rfl rfl)
theorem del16 {n id : Nat} {look : Nat → Option ABlk} {l0 l y : List TJointRefuted} {i j : Int} (hl : l0.length = l.length) (hb : look id = ownB TJointRefuted.E 49 l) (h : delO 32 l i j = some y) : PureD Try.prog KK.gl look n 16 [ownV TJointRefuted.E id l0, intA i, intA j] (blkW TJointRefuted.E n y) [(n, some ⟨encs TJointRefuted.E y, 49⟩), (id, none)] :=
  del_opq (by intro x a ha; simp only [TJointRefuted.E, lstE, List.mem_cons, List.not_mem_nil, or_false] at ha; rcases ha with rfl | rfl <;> first | exact .inl ⟨_, rfl⟩ | exact .inr ⟨_, _, _, rfl⟩) ⟨Try.f16, _, Try.func16, rfl, by kernel_rfl⟩ hl hb h (fun hb h => del16o hb h)
noncomputable def J18 (a1 : Int) (a2 : AV) (m : Mem) (R : AV → Mem → Prop) (z2 z4 : Int) (v17 : AV) : Prop :=

opP (opA Try.prog (.slice 31 (.tmp 0) (some (.tmp 1)) none none) 31 [v17, (AV.sc (.int .i64 z4))] (mget m) 102) fun v28 =>
opN (opA Try.prog (.call ⟨.builtin .copy, #[.tmp 0, .tmp 1], #[31, 31]⟩) 3 [v28, a2] (mget m) 104) m fun v29 m29 =>
ex_i64 v29 fun z30 =>
opP (opA Try.prog (.slice 31 (.tmp 0) (some (.tmp 1)) none none) 31 [v17, (AV.sc (.int .i64 a1))] (mget m29) 107) fun v31 =>
callW Try.prog KK.gl m29 109 35 [v31, (AV.sc (.int .i64 z2))] fun v32 m32 =>
exT0 v32 <|
retL R m32 [some v17]
noncomputable def J18n (a0 : AV) (a1 : Int) (a2 : AV) (m : Mem) (R : AV → Mem → Prop) (z2 z4 : Int) : Prop :=

opP (opA Try.prog (.call ⟨.builtin .cap, #[.tmp 0], #[31]⟩) 3 [a0] (mget m) 20) fun v6 =>
ex_i64 v6 fun z7 =>
bif (decide ((IntKind.wrap .i64 (z4 + z2)) > z7)) then (
opP (opA Try.prog (.slice 31 (.tmp 0) none (some (.tmp 1)) none) 31 [a0, (AV.sc (.int .i64 a1))] (mget m) 24) fun v8 =>
opN (opA Try.prog (.call ⟨.builtin .append, #[.tmp 0, .tmp 1], #[31, 3]⟩) 31 [v8, (AV.sc (.int .i64 (IntKind.wrap .i64 ((IntKind.wrap .i64 (z4 + z2)) - a1))))] (mget m) 30) m fun v9 m9 =>
opP (opA Try.prog (.slice 31 (.tmp 0) (some (.tmp 1)) none none) 31 [v9, (AV.sc (.int .i64 a1))] (mget m9) 34) fun v10 =>
opN (opA Try.prog (.call ⟨.builtin .copy, #[.tmp 0, .tmp 1], #[31, 31]⟩) 3 [v10, a2] (mget m9) 36) m9 fun v11 m11 =>
ex_i64 v11 fun z12 =>
opM (opA Try.prog (.slice 31 (.tmp 0) (some (.tmp 1)) none none) 31 [v9, (AV.sc (.int .i64 (IntKind.wrap .i64 (a1 + z2))))] (look' m11 (topId v9 ++ (topId (AV.sc (.int .i64 (IntKind.wrap .i64 (a1 + z2)))) ++ ([])))) 41) fun v13 d13 =>
opM (opA Try.prog (.slice 31 (.tmp 0) (some (.tmp 1)) none none) 31 [a0, (AV.sc (.int .i64 a1))] (look' (mpushs m11 d13) (topId a0 ++ (topId (AV.sc (.int .i64 a1)) ++ ([])))) 44) fun v14 d14 =>
opM (opA Try.prog (.call ⟨.builtin .copy, #[.tmp 0, .tmp 1], #[31, 31]⟩) 3 [v13, v14] (look' (mpushs (mpushs m11 d13) d14) (topId v13 ++ (topId v14 ++ ([])))) 45) fun v15 d15 =>
ex_i64 v15 fun z16 =>
chk (confOk [0, 0, 0, 6, 15, 0, 0, 96, 255] [⟨[], []⟩, ⟨[], []⟩, ⟨[], []⟩, ⟨[], []⟩, ⟨d13, (topId v9 ++ (topId (AV.sc (.int .i64 (IntKind.wrap .i64 (a1 + z2)))) ++ ([])))⟩, ⟨[], []⟩, ⟨[], []⟩, ⟨d14, (topId a0 ++ (topId (AV.sc (.int .i64 a1)) ++ ([])))⟩, ⟨d15, (topId v13 ++ (topId v14 ++ ([])))⟩]) (retL R (mpushs (mpushs (mpushs m11 d13) d14) d15) [some v9])) else (
opP (opA Try.prog (.slice 31 (.tmp 0) none (some (.tmp 1)) none) 31 [a0, (AV.sc (.int .i64 (IntKind.wrap .i64 (z4 + z2))))] (mget m) 26) fun v17 =>
opP (opA Try.prog (.slice 31 (.tmp 0) (some (.tmp 1)) none none) 31 [v17, (AV.sc (.int .i64 (IntKind.wrap .i64 (a1 + z2))))] (mget m) 33) fun v18 =>
callQ Try.prog KK.gl m 34 [a2, v18] fun v19 =>
exB v19 fun b20 =>
bif (!b20) then (
opM (opA Try.prog (.slice 31 (.tmp 0) (some (.tmp 1)) none none) 31 [v17, (AV.sc (.int .i64 (IntKind.wrap .i64 (a1 + z2))))] (look' m (topId v17 ++ (topId (AV.sc (.int .i64 (IntKind.wrap .i64 (a1 + z2)))) ++ ([])))) 103) fun v21 d21 =>
opM (opA Try.prog (.slice 31 (.tmp 0) (some (.tmp 1)) none none) 31 [v17, (AV.sc (.int .i64 a1))] (look' (mpushs m d21) (topId v17 ++ (topId (AV.sc (.int .i64 a1)) ++ ([])))) 106) fun v22 d22 =>
opM (opA Try.prog (.call ⟨.builtin .copy, #[.tmp 0, .tmp 1], #[31, 31]⟩) 3 [v21, v22] (look' (mpushs (mpushs m d21) d22) (topId v21 ++ (topId v22 ++ ([])))) 107) fun v23 d23 =>
ex_i64 v23 fun z24 =>
chk (confOk [0, 0, 0, 6, 15, 0, 0, 96, 255] [⟨[], []⟩, ⟨[], []⟩, ⟨[], []⟩, ⟨[], []⟩, ⟨d21, (topId v17 ++ (topId (AV.sc (.int .i64 (IntKind.wrap .i64 (a1 + z2)))) ++ ([])))⟩, ⟨[], []⟩, ⟨[], []⟩, ⟨d22, (topId v17 ++ (topId (AV.sc (.int .i64 a1)) ++ ([])))⟩, ⟨d23, (topId v21 ++ (topId v22 ++ ([])))⟩]) (opP (opA Try.prog (.slice 31 (.tmp 0) (some (.tmp 1)) none none) 31 [v17, (AV.sc (.int .i64 a1))] (mget (mpushs (mpushs (mpushs m d21) d22) d23)) 110) fun v25 =>
opN (opA Try.prog (.call ⟨.builtin .copy, #[.tmp 0, .tmp 1], #[31, 31]⟩) 3 [v25, a2] (mget (mpushs (mpushs (mpushs m d21) d22) d23)) 112) (mpushs (mpushs (mpushs m d21) d22) d23) fun v26 m26 =>
ex_i64 v26 fun z27 =>
retL R m26 [some v17])) else (
opP (opA Try.prog (.slice 31 (.tmp 0) (some (.tmp 1)) none none) 31 [v17, (AV.sc (.int .i64 z4))] (mget m) 101) fun v28 =>
opN (opA Try.prog (.call ⟨.builtin .copy, #[.tmp 0, .tmp 1], #[31, 31]⟩) 3 [v28, a2] (mget m) 103) m fun v29 m29 =>
ex_i64 v29 fun z30 =>
opP (opA Try.prog (.slice 31 (.tmp 0) (some (.tmp 1)) none none) 31 [v17, (AV.sc (.int .i64 a1))] (mget m29) 106) fun v31 =>
callW Try.prog KK.gl m29 108 35 [v31, (AV.sc (.int .i64 z2))] fun v32 m32 =>
exT0 v32 <|
retL R m32 [some v17]))
theorem J18_eq (a0 : AV) (a1 : Int) (a2 : AV) (m : Mem) (R : AV → Mem → Prop) : insTxt Try.prog KK.gl 31 3 49 2 32 34 [AV.nils, (AV.sc (.int .i64 (0)))] (J18 a1 a2 m R) a0 a1 a2 m R = F18n2 a0 a1 a2 m R := by kernel_rfl
theorem J18n_eq (a0 : AV) (a1 : Int) (a2 : AV) (m : Mem) (R : AV → Mem → Prop) : insTxt1 Try.prog 31 49 2 32 [AV.nils, (AV.sc (.int .i64 (0)))] (J18n a0 a1 a2 m R) a0 a1 a2 m R = F18n1 a0 a1 a2 m R := by kernel_rfl
theorem over18 : OverF Try.prog 34 31 4 := ⟨⟨Try.f34, Try.func34, by kernel_rfl, by kernel_rfl, by kernel_rfl, by kernel_rfl⟩, ⟨49, _, by kernel_rfl, run_size (n := (tsize Try.prog 49).getD 0) (by kernel_rfl)⟩⟩
theorem insa18 {l xs : List (Raw TJointRefuted.E)} {C k : Nat} (hC : l.length ≤ C) (hCm : C ≤ maxLen) (hne : l ≠ []) (hx : xs ≠ []) (hk : k ≤ l.length) (r1 : (l.length + xs.length) * 32 ≤ 140737488355328) (r2 : l.length + xs.length ≤ 4611686018427387904) (a0 : AV) (ha0 : a0 = .sl 0 0 (EnO TJointRefuted.E).size l.length C true) (a1 : Int) (ha1 : a1 = (k : Int)) (a2 : AV) (ha2 : a2 = .sl 1 0 (EnO TJointRefuted.E).size xs.length xs.length false) (m : Mem) (hm : m = [(0, some ⟨encs (EnO TJointRefuted.E) l ++ List.replicate ((C - l.length) * (EnO TJointRefuted.E).size) .und, 49⟩), (1, some ⟨encs (EnO TJointRefuted.E) xs, 49⟩)]) : F18n2 a0 a1 a2 m (MutO (EnO TJointRefuted.E) 49 (l.take k ++ xs ++ l.drop k)) := by
  rw [← J18_eq]
  exact insert_ok (P := Try.prog) (gl := KK.gl) (E := (EnO TJointRefuted.E)) (t := 31) (e := 49) (sz := 2) (by_ := 32) (fo := 34) (ty2 := 49) (i := k) (zs := [AV.nils, (AV.sc (.int .i64 (0)))]) (l := l) (xs := xs) (C := C) (f := 0) (nt := 0) (kk := .i64) (by kernel_rfl) (by kernel_rfl) (by kernel_rfl) (by kernel_rfl) rfl rfl (by kernel_rfl) over18 hC hCm hne hx hk r1 r2 (MutO (EnO TJointRefuted.E) 49 (l.take k ++ xs ++ l.drop k)) (fun _ _ h => h) m hm a0 ha0 a1 ha1 a2 ha2 _
theorem insb18 {xs : List (Raw TJointRefuted.E)} (hx : xs ≠ []) (r1 : (0 + xs.length) * 32 ≤ 140737488355328) (r2 : 0 + xs.length ≤ 4611686018427387904) (a0 : AV) (ha0 : a0 = .lst 0 [] true) (a1 : Int) (ha1 : a1 = 0) (a2 : AV) (ha2 : a2 = .sl 0 0 (EnO TJointRefuted.E).size xs.length xs.length false) (m : Mem) (hm : m = [(0, some ⟨encs (EnO TJointRefuted.E) xs, 49⟩)]) : F18n1 a0 a1 a2 m (MutO (EnO TJointRefuted.E) 49 xs) := by
  rw [← J18n_eq]
  exact insert_nil_ok (by kernel_rfl) (by kernel_rfl) rfl rfl hx r1 r2 _ (fun _ _ h => h) m hm a0 ha0 a1 ha1 a2 ha2 _
theorem ins18o {n id wid : Nat} {look : Nat → Option ABlk} {l0 l xs0 xs y : List (Raw TJointRefuted.E)} {i : Int} (hl : l0.length = l.length) (hb : look id = ownB (EnO TJointRefuted.E) 49 l) (hl2 : xs0.length = xs.length) (hb2 : look wid = some ⟨encs (EnO TJointRefuted.E) xs, 49⟩) (hid : id ≠ wid) (h : insO 32 l i xs = some y) : PureD Try.prog KK.gl look n 18 [ownV (EnO TJointRefuted.E) id l0, intA i, blkV (EnO TJointRefuted.E) wid xs0] (ownV (EnO TJointRefuted.E) n y) [(n, ownB (EnO TJointRefuted.E) 49 y), (wid, none), (id, none)] :=
  ins_mk EnO.sc hl hb hl2 hb2 hid h (fun C k hC hCm hne hx hk r1 r2 => F18n2_call _ _ _ _ _ (insa18 hC hCm hne hx hk r1 r2 _ rfl _ rfl _ rfl _ rfl)) (fun hx r1 r2 => F18n1_call _ _ _ _ _ (insb18 hx r1 r2 _ rfl _ rfl _ rfl _ rfl))
theorem ins18 {n id wid : Nat} {look : Nat → Option ABlk} {l0 l xs0 xs y : List TJointRefuted} {i : Int} (hl : l0.length = l.length) (hb : look id = ownB TJointRefuted.E 49 l) (hl2 : xs0.length = xs.length) (hb2 : look wid = some ⟨encs TJointRefuted.E xs, 49⟩) (hid : id ≠ wid) (h : insO 32 l i xs = some y) : PureD Try.prog KK.gl look n 18 [ownV TJointRefuted.E id l0, intA i, blkV TJointRefuted.E wid xs0] (ownV TJointRefuted.E n y) [(n, ownB TJointRefuted.E 49 y), (wid, none), (id, none)] :=
  ins_opq (by intro x a ha; simp only [TJointRefuted.E, lstE, List.mem_cons, List.not_mem_nil, or_false] at ha; rcases ha with rfl | rfl <;> first | exact .inl ⟨_, rfl⟩ | exact .inr ⟨_, _, _, rfl⟩) ⟨Try.f18, _, Try.func18, rfl, by kernel_rfl⟩ hl hb hl2 hb2 hid h (fun hb hb2 h => ins18o rfl hb rfl hb2 hid h)
/- skyway/probe.CheckSep -/
theorem g36_ok (n : Nat) (a0 : TSep) {t : ρ36} (R : AV → Mem → Prop) (hR : ∀ r : ρ36, t = r → ∀ u m, Ans ((intA r)) u m → R u m) : g36 n a0 = some t → F36 a0.Lateral a0.Vertical R := by
  unfold g36 F36
  refine cond_b (fun _ => ?_) (fun _ => ?_)
  · exact fun hg => ret1 (hR _ (Option.some.inj hg).symm) (fz_sc _ _)
  · refine cond_b (fun _ => ?_) (fun _ => ?_)
    · exact fun hg => ret1 (hR _ (Option.some.inj hg).symm) (fz_sc _ _)
    · refine cond_b (fun _ => ?_) (fun _ => ?_)
      · exact fun hg => ret1 (hR _ (Option.some.inj hg).symm) (fz_sc _ _)
      · refine cond_b (fun _ => ?_) (fun _ => ?_)
        · exact fun hg => ret1 (hR _ (Option.some.inj hg).symm) (fz_sc _ _)
        · exact fun hg => ret1 (hR _ (Option.some.inj hg).symm) (fz_sc _ _)
theorem sg36 {n : Nat} {a0 : TSep} {t : ρ36} (h : g36 n a0 = some t) : Says Try.prog KK.gl 36 [(AV.agg [(intA a0.Lateral), (intA a0.Vertical)])] ((intA t)) :=
  says_of_own (by first | rfl | simp [cleans, clean, encs_clean, En.cln]) (by first | rfl | simp [cleans, clean, encs_clean, En.cln]) (F36_own a0.Lateral a0.Vertical _ (g36_ok n a0 (Ans ((intA t))) (fun r e u m h => by rw [e]; exact h) h))
/- skyway/plane.Check -/
theorem g45_ok (n : Nat) (a0 : TP) {t : ρ45} (R : AV → Mem → Prop) (hR : ∀ r : ρ45, t = r → ∀ u m, Ans ((intA r)) u m → R u m) : g45 n a0 = some t → F45 a0.X a0.Y R := by
  unfold g45 F45
  refine cond_b (fun _ => ?_) (fun _ => ?_)
  · exact fun hg => ret1 (hR _ (Option.some.inj hg).symm) (fz_sc _ _)
  · refine cond_b (fun _ => ?_) (fun _ => ?_)
    · exact fun hg => ret1 (hR _ (Option.some.inj hg).symm) (fz_sc _ _)
    · refine cond_b (fun _ => ?_) (fun _ => ?_)
      · exact fun hg => ret1 (hR _ (Option.some.inj hg).symm) (fz_sc _ _)
      · refine cond_b (fun _ => ?_) (fun _ => ?_)
        · exact fun hg => ret1 (hR _ (Option.some.inj hg).symm) (fz_sc _ _)
        · exact fun hg => ret1 (hR _ (Option.some.inj hg).symm) (fz_sc _ _)
theorem sg45 {n : Nat} {a0 : TP} {t : ρ45} (h : g45 n a0 = some t) : Says Try.prog KK.gl 45 [(AV.agg [(intA a0.X), (intA a0.Y)])] ((intA t)) :=
  says_of_own (by first | rfl | simp [cleans, clean, encs_clean, En.cln]) (by first | rfl | simp [cleans, clean, encs_clean, En.cln]) (F45_own a0.X a0.Y _ (g45_ok n a0 (Ans ((intA t))) (fun r e u m h => by rw [e]; exact h) h))
/- skyway/tube.Check -/
theorem B33_0_ok (n : Nat) (a0 : List TTubeNode) (c2 : Int) (c15 : Int) (v16 : Int) {t : (Int) ⊕ ρ33} (R : AV → Mem → Prop) (N0 : St → Prop) (hR : ∀ r : ρ33, t = (.inr r) → ∀ u m, Ans ((intA r)) u m → R u m) (hN0 : ∀ y : Int, t = (.inl y) → ∀ s' : St, Weak KK 86 0 s' (h33_0 (lstA TTubeNode.E a0) c2 (lstA TTubeNode.E a0) c15 y []) → N0 s') : S33_0 n a0 c2 c15 v16 = some t → B33_0 (lstA TTubeNode.E a0) c2 (lstA TTubeNode.E a0) c15 v16 [] R N0 := by
  unfold S33_0 B33_0
  refine cond_b (fun _ => ?_) (fun _ => ?_)
  · refine bind_b fun x0 h0 => ?_
    refine imp (opP_of (show _ = some ((AV.ept [(intA x0.Node_Time), (intA x0.Node_At_X), (intA x0.Node_At_Y), (intA x0.Node_Height), (intA x0.Radius), (intA x0.Band)] 0), []) from (idx_lst (E := TTubeNode.E) rfl h0))) ?_
    refine imp (opP_of (show _ = some ((AV.agg [(intA x0.Node_Time), (intA x0.Node_At_X), (intA x0.Node_At_Y), (intA x0.Node_Height), (intA x0.Radius), (intA x0.Band)]), []) from rfl)) ?_
    refine imp exA6_b ?_
    refine imp ex_i64_b ?_
    refine imp ex_i64_b ?_
    refine imp ex_i64_b ?_
    refine imp ex_i64_b ?_
    refine imp ex_i64_b ?_
    refine imp ex_i64_b ?_
    refine cond_b (fun _ => ?_) (fun _ => ?_)
    · exact fun hg => ret1 (hR _ (Option.some.inj hg).symm) (fz_sc _ _)
    · refine cond_b (fun _ => ?_) (fun _ => ?_)
      · exact fun hg => ret1 (hR _ (Option.some.inj hg).symm) (fz_sc _ _)
      · refine cond_b (fun _ => ?_) (fun _ => ?_)
        · refine bind_b fun x1 h1 => ?_
          refine imp (opP_of (show _ = some ((AV.ept [(intA x1.Node_Time), (intA x1.Node_At_X), (intA x1.Node_At_Y), (intA x1.Node_Height), (intA x1.Radius), (intA x1.Band)] 0), []) from (idx_lst (E := TTubeNode.E) rfl h1))) ?_
          refine imp (opP_of (show _ = some ((AV.ept [(intA x1.Node_Time), (intA x1.Node_At_X), (intA x1.Node_At_Y), (intA x1.Node_Height), (intA x1.Radius), (intA x1.Band)] 0), []) from rfl)) ?_
          refine imp (opP_of (show _ = some ((AV.ept [(intA x1.Node_Time), (intA x1.Node_At_X), (intA x1.Node_At_Y), (intA x1.Node_Height), (intA x1.Radius), (intA x1.Band)] 0), []) from rfl)) ?_
          refine imp (opP_of (show _ = some ((intA x1.Node_Time), []) from rfl)) ?_
          refine imp ex_i64_b ?_
          refine cond_b (fun _ => ?_) (fun _ => ?_)
          · exact fun hg => ret1 (hR _ (Option.some.inj hg).symm) (fz_sc _ _)
          · refine bind_b fun x2 h2 => ?_
            refine imp (callQ_says (sg45 h2)) ?_
            refine imp ex_i64_b ?_
            refine cond_b (fun _ => ?_) (fun _ => ?_)
            · exact fun hg => ret1 (hR _ (Option.some.inj hg).symm) (fz_sc _ _)
            · refine cond_b (fun _ => ?_) (fun _ => ?_)
              · exact fun hg => ret1 (hR _ (Option.some.inj hg).symm) (fz_sc _ _)
              · refine cond_b (fun _ => ?_) (fun _ => ?_)
                · exact fun hg => ret1 (hR _ (Option.some.inj hg).symm) (fz_sc _ _)
                · refine cond_b (fun _ => ?_) (fun _ => ?_)
                  · exact fun hg => ret1 (hR _ (Option.some.inj hg).symm) (fz_sc _ _)
                  · refine cond_b (fun _ => ?_) (fun _ => ?_)
                    · exact fun hg => ret1 (hR _ (Option.some.inj hg).symm) (fz_sc _ _)
                    · refine cond_b (fun _ => ?_) (fun _ => ?_)
                      · exact fun hg => ret1 (hR _ (Option.some.inj hg).symm) (fz_sc _ _)
                      · refine cond_b (fun _ => ?_) (fun _ => ?_)
                        · exact fun hg => ret1 (hR _ (Option.some.inj hg).symm) (fz_sc _ _)
                        · exact fun hg => hN0 _ (Option.some.inj hg).symm _ (weak_mem [] rfl rfl rfl (okW_cons (ent_lst (E := TTubeNode.E) _ false) (okW_cons (.inl (leV_refl _)) (okW_cons (ent_lst (E := TTubeNode.E) _ false) (okW_cons (.inl (leV_refl _)) (okW_cons (.inl (leV_refl _)) okW_nil))))) okB_nil')
        · refine bind_b fun x3 h3 => ?_
          refine imp (callQ_says (sg45 h3)) ?_
          refine imp ex_i64_b ?_
          refine cond_b (fun _ => ?_) (fun _ => ?_)
          · exact fun hg => ret1 (hR _ (Option.some.inj hg).symm) (fz_sc _ _)
          · refine cond_b (fun _ => ?_) (fun _ => ?_)
            · exact fun hg => ret1 (hR _ (Option.some.inj hg).symm) (fz_sc _ _)
            · refine cond_b (fun _ => ?_) (fun _ => ?_)
              · exact fun hg => ret1 (hR _ (Option.some.inj hg).symm) (fz_sc _ _)
              · refine cond_b (fun _ => ?_) (fun _ => ?_)
                · exact fun hg => ret1 (hR _ (Option.some.inj hg).symm) (fz_sc _ _)
                · refine cond_b (fun _ => ?_) (fun _ => ?_)
                  · exact fun hg => ret1 (hR _ (Option.some.inj hg).symm) (fz_sc _ _)
                  · refine cond_b (fun _ => ?_) (fun _ => ?_)
                    · exact fun hg => ret1 (hR _ (Option.some.inj hg).symm) (fz_sc _ _)
                    · refine cond_b (fun _ => ?_) (fun _ => ?_)
                      · exact fun hg => ret1 (hR _ (Option.some.inj hg).symm) (fz_sc _ _)
                      · exact fun hg => hN0 _ (Option.some.inj hg).symm _ (weak_mem [] rfl rfl rfl (okW_cons (ent_lst (E := TTubeNode.E) _ false) (okW_cons (.inl (leV_refl _)) (okW_cons (ent_lst (E := TTubeNode.E) _ false) (okW_cons (.inl (leV_refl _)) (okW_cons (.inl (leV_refl _)) okW_nil))))) okB_nil')
  · exact fun hg => ret1 (hR _ (Option.some.inj hg).symm) (fz_sc _ _)
theorem L33_0_ok (n : Nat) (a0 : List TTubeNode) (c2 : Int) (c15 : Int) {t : ρ33} (R : AV → Mem → Prop) (hR : ∀ r : ρ33, t = r → ∀ u m, Ans ((intA r)) u m → R u m) (k : Nat) (x : Int) (hx : iterO (fun y : Int => S33_0 n a0 c2 c15 y) k x = some t) {s : St} (hw : Weak KK 86 0 s (h33_0 (lstA TTubeNode.E a0) c2 (lstA TTubeNode.E a0) c15 x [])) : Tri Try.prog KK 86 0 (.loop c33_0) s (q33_0 R ) :=
  L33_0 R  (σ := Nat × (Int)) (fun z => iterO (fun y : Int => S33_0 n a0 c2 c15 y) z.1 z.2 = some t) (fun z => (lstA TTubeNode.E a0)) (fun z => c2) (fun z => (lstA TTubeNode.E a0)) (fun z => c15) (fun z => z.2) (fun z => []) (fun z => z.1) (by
    rintro ⟨k, y⟩ h
    cases k with
    | zero => exact (iterO_zero h).elim
    | succ k =>
      obtain ⟨u, h1, h2, h3⟩ := iterO_elim h
      exact B33_0_ok n a0 c2 c15 y R  _ (fun r e => hR r (h3 _ e).symm)  (fun y' e s' hw => ⟨(k, y'), h2 _ e, Nat.lt_succ_self k, hw⟩) h1) (k, x) hx hw
theorem g33_ok (n : Nat) (a0 : List TTubeNode) {t : ρ33} (R : AV → Mem → Prop) (hR : ∀ r : ρ33, t = r → ∀ u m, Ans ((intA r)) u m → R u m) : g33 n a0 = some t → F33 (lstA TTubeNode.E a0) R := by
  unfold g33 F33
  refine imp (opP_of (show _ = some ((intA (a0.length : Int)), []) from rfl)) ?_
  refine imp ex_i64_b ?_
  refine cond_b (fun _ => ?_) (fun _ => ?_)
  · exact fun hg => ret1 (hR _ (Option.some.inj hg).symm) (fz_sc _ _)
  · refine imp (opP_of (show _ = some ((intA (a0.length : Int)), []) from rfl)) ?_
    refine imp ex_i64_b ?_
    refine cond_b (fun _ => ?_) (fun _ => ?_)
    · exact fun hg => ret1 (hR _ (Option.some.inj hg).symm) (fz_sc _ _)
    · refine imp (opP_of (show _ = some ((intA (a0.length : Int)), []) from rfl)) ?_
      refine imp ex_i64_b ?_
      exact fun hg => L33_0_ok n a0 (0) (a0.length : Int) R  hR n _ hg (weak_mem [] rfl rfl rfl (okW_cons (ent_lst (E := TTubeNode.E) _ false) (okW_cons (.inl (leV_refl _)) (okW_cons (ent_lst (E := TTubeNode.E) _ false) (okW_cons (.inl (leV_refl _)) (okW_cons (.inl (leV_refl _)) okW_nil))))) okB_nil')
theorem sg33 {n : Nat} {a0 : List TTubeNode} {t : ρ33} (h : g33 n a0 = some t) : Says Try.prog KK.gl 33 [(lstA TTubeNode.E a0)] ((intA t)) :=
  says_of_own (by first | rfl | simp [cleans, clean, encs_clean, En.cln]) (by first | rfl | simp [cleans, clean, encs_clean, En.cln]) (F33_own (lstA TTubeNode.E a0) _ (g33_ok n a0 (Ans ((intA t))) (fun r e u m h => by rw [e]; exact h) h))
/- skyway/joint.Check -/
theorem B23_0_0_ok (n : Nat) (c2 : Int) (c3 : Int) (a0 : List (List TJointOption)) (c13 : Int) (v14 : Int) (x4 : List TJointOption) (c33 : Int) (w34 : Int) {t : (Int) ⊕ ((Int × Int) ⊕ ρ23)} (R : AV → Mem → Prop) (N0 : St → Prop) (N1 : St → Prop) (hR : ∀ r : ρ23, t = (.inr (.inr r)) → ∀ u m, Ans ((intA r)) u m → R u m) (hN0 : ∀ y : Int × Int, t = (.inr (.inl y)) → ∀ s' : St, Weak KK 54 0 s' (h23_0 c2 y.1 (lstA (lstE TJointOption.E) a0) c13 y.2 []) → N0 s') (hN1 : ∀ y : Int, t = (.inl y) → ∀ s' : St, Weak KK 54 0 s' (h23_0_0 c2 c3 (lstA (lstE TJointOption.E) a0) c13 v14 (lstA TJointOption.E x4) c33 y []) → N1 s') : S23_0_0 n c2 c3 a0 c13 v14 x4 c33 w34 = some t → B23_0_0 c2 c3 (lstA (lstE TJointOption.E) a0) c13 v14 (lstA TJointOption.E x4) c33 w34 [] R N0 N1 := by
  unfold S23_0_0 B23_0_0
  refine cond_b (fun _ => ?_) (fun _ => ?_)
  · refine bind_b fun x5 h5 => ?_
    refine imp (opP_of (show _ = some ((AV.ept [(intA x5.Cost), (lstA TTubeNode.E x5.Tube)] 0), []) from (idx_lst (E := TJointOption.E) rfl h5))) ?_
    refine imp (opP_of (show _ = some ((AV.agg [(intA x5.Cost), (lstA TTubeNode.E x5.Tube)]), []) from rfl)) ?_
    refine imp exA2_b ?_
    refine imp ex_i64_b ?_
    refine imp (chk_of rfl) ?_
    refine cond_b (fun _ => ?_) (fun _ => ?_)
    · exact fun hg => ret1 (hR _ (Option.some.inj hg).symm) (fz_sc _ _)
    · refine cond_b (fun _ => ?_) (fun _ => ?_)
      · exact fun hg => ret1 (hR _ (Option.some.inj hg).symm) (fz_sc _ _)
      · refine bind_b fun x6 h6 => ?_
        refine imp (callQ_says (sg33 h6)) ?_
        refine imp ex_i64_b ?_
        refine cond_b (fun _ => ?_) (fun _ => ?_)
        · exact fun hg => ret1 (hR _ (Option.some.inj hg).symm) (fz_sc _ _)
        · exact fun hg => hN1 _ (Option.some.inj hg).symm _ (weak_mem [] rfl rfl rfl (okW_cons (.inl (leV_refl _)) (okW_cons (.inl (leV_refl _)) (okW_cons (ent_lst (E := (lstE TJointOption.E)) _ false) (okW_cons (.inl (leV_refl _)) (okW_cons (.inl (leV_refl _)) (okW_cons (ent_lst (E := TJointOption.E) _ false) (okW_cons (.inl (leV_refl _)) (okW_cons (.inl (leV_refl _)) okW_nil)))))))) okB_nil')
  · exact fun hg => hN0 _ (Option.some.inj hg).symm _ (weak_mem [] rfl rfl rfl (okW_cons (.inl (leV_refl _)) (okW_cons (.inl (leV_refl _)) (okW_cons (ent_lst (E := (lstE TJointOption.E)) _ false) (okW_cons (.inl (leV_refl _)) (okW_cons (.inl (leV_refl _)) okW_nil))))) okB_nil')
theorem L23_0_0_ok (n : Nat) (c2 : Int) (c3 : Int) (a0 : List (List TJointOption)) (c13 : Int) (v14 : Int) (x4 : List TJointOption) (c33 : Int) {t : ((Int × Int) ⊕ ρ23)} (R : AV → Mem → Prop) (N0 : St → Prop) (hR : ∀ r : ρ23, t = (.inr r) → ∀ u m, Ans ((intA r)) u m → R u m) (hN0 : ∀ y : Int × Int, t = (.inl y) → ∀ s' : St, Weak KK 54 0 s' (h23_0 c2 y.1 (lstA (lstE TJointOption.E) a0) c13 y.2 []) → N0 s') (k : Nat) (x : Int) (hx : iterO (fun y : Int => S23_0_0 n c2 c3 a0 c13 v14 x4 c33 y) k x = some t) {s : St} (hw : Weak KK 54 0 s (h23_0_0 c2 c3 (lstA (lstE TJointOption.E) a0) c13 v14 (lstA TJointOption.E x4) c33 x [])) : Tri Try.prog KK 54 0 (.loop c23_0_0) s (q23_0_0 R N0) :=
  L23_0_0 R N0 (σ := Nat × (Int)) (fun z => iterO (fun y : Int => S23_0_0 n c2 c3 a0 c13 v14 x4 c33 y) z.1 z.2 = some t) (fun z => c2) (fun z => c3) (fun z => (lstA (lstE TJointOption.E) a0)) (fun z => c13) (fun z => v14) (fun z => (lstA TJointOption.E x4)) (fun z => c33) (fun z => z.2) (fun z => []) (fun z => z.1) (by
    rintro ⟨k, y⟩ h
    cases k with
    | zero => exact (iterO_zero h).elim
    | succ k =>
      obtain ⟨u, h1, h2, h3⟩ := iterO_elim h
      exact B23_0_0_ok n c2 c3 a0 c13 v14 x4 c33 y R N0 _ (fun r e => hR r (h3 _ e).symm) (fun y' e => hN0 y' (h3 _ e).symm) (fun y' e s' hw => ⟨(k, y'), h2 _ e, Nat.lt_succ_self k, hw⟩) h1) (k, x) hx hw
theorem B23_0_ok (n : Nat) (c2 : Int) (a0 : List (List TJointOption)) (c13 : Int) (v3 : Int) (v14 : Int) {t : (Int × Int) ⊕ ρ23} (R : AV → Mem → Prop) (N0 : St → Prop) (hR : ∀ r : ρ23, t = (.inr r) → ∀ u m, Ans ((intA r)) u m → R u m) (hN0 : ∀ y : Int × Int, t = (.inl y) → ∀ s' : St, Weak KK 54 0 s' (h23_0 c2 y.1 (lstA (lstE TJointOption.E) a0) c13 y.2 []) → N0 s') : S23_0 n c2 a0 c13 v3 v14 = some t → B23_0 c2 v3 (lstA (lstE TJointOption.E) a0) c13 v14 [] R N0 := by
  unfold S23_0 B23_0
  refine cond_b (fun _ => ?_) (fun _ => ?_)
  · refine bind_b fun x4 h4 => ?_
    refine imp (opP_of (show _ = some ((AV.ept [(lstA TJointOption.E x4)] 0), []) from (idx_lst (E := (lstE TJointOption.E)) rfl h4))) ?_
    refine imp (opP_of (show _ = some ((lstA TJointOption.E x4), []) from rfl)) ?_
    refine imp (opP_of (show _ = some ((intA (x4.length : Int)), []) from rfl)) ?_
    refine imp ex_i64_b ?_
    refine cond_b (fun _ => ?_) (fun _ => ?_)
    · exact fun hg => ret1 (hR _ (Option.some.inj hg).symm) (fz_sc _ _)
    · refine imp (opP_of (show _ = some ((intA (x4.length : Int)), []) from rfl)) ?_
      refine imp ex_i64_b ?_
      refine cond_b (fun _ => ?_) (fun _ => ?_)
      · exact fun hg => ret1 (hR _ (Option.some.inj hg).symm) (fz_sc _ _)
      · refine imp (opP_of (show _ = some ((intA (x4.length : Int)), []) from rfl)) ?_
        refine imp ex_i64_b ?_
        refine cond_b (fun _ => ?_) (fun _ => ?_)
        · exact fun hg => ret1 (hR _ (Option.some.inj hg).symm) (fz_sc _ _)
        · refine imp (opP_of (show _ = some ((intA (x4.length : Int)), []) from rfl)) ?_
          refine imp ex_i64_b ?_
          exact fun hg => L23_0_0_ok n c2 (IntKind.wrap .i64 (v3 * (x4.length : Int))) a0 c13 v14 x4 (x4.length : Int) R N0 hR hN0 n _ hg (weak_mem [] rfl rfl rfl (okW_cons (.inl (leV_refl _)) (okW_cons (.inl (leV_refl _)) (okW_cons (ent_lst (E := (lstE TJointOption.E)) _ false) (okW_cons (.inl (leV_refl _)) (okW_cons (.inl (leV_refl _)) (okW_cons (ent_lst (E := TJointOption.E) _ false) (okW_cons (.inl (leV_refl _)) (okW_cons (.inl (leV_refl _)) okW_nil)))))))) okB_nil')
  · exact fun hg => ret1 (hR _ (Option.some.inj hg).symm) (fz_sc _ _)
theorem L23_0_ok (n : Nat) (c2 : Int) (a0 : List (List TJointOption)) (c13 : Int) {t : ρ23} (R : AV → Mem → Prop) (hR : ∀ r : ρ23, t = r → ∀ u m, Ans ((intA r)) u m → R u m) (k : Nat) (x : Int × Int) (hx : iterO (fun y : Int × Int => S23_0 n c2 a0 c13 y.1 y.2) k x = some t) {s : St} (hw : Weak KK 54 0 s (h23_0 c2 x.1 (lstA (lstE TJointOption.E) a0) c13 x.2 [])) : Tri Try.prog KK 54 0 (.loop c23_0) s (q23_0 R ) :=
  L23_0 R  (σ := Nat × (Int × Int)) (fun z => iterO (fun y : Int × Int => S23_0 n c2 a0 c13 y.1 y.2) z.1 z.2 = some t) (fun z => c2) (fun z => z.2.1) (fun z => (lstA (lstE TJointOption.E) a0)) (fun z => c13) (fun z => z.2.2) (fun z => []) (fun z => z.1) (by
    rintro ⟨k, y⟩ h
    cases k with
    | zero => exact (iterO_zero h).elim
    | succ k =>
      obtain ⟨u, h1, h2, h3⟩ := iterO_elim h
      exact B23_0_ok n c2 a0 c13 y.1 y.2 R  _ (fun r e => hR r (h3 _ e).symm)  (fun y' e s' hw => ⟨(k, y'), h2 _ e, Nat.lt_succ_self k, hw⟩) h1) (k, x) hx hw
theorem g23_ok (n : Nat) (a0 : List (List TJointOption)) {t : ρ23} (R : AV → Mem → Prop) (hR : ∀ r : ρ23, t = r → ∀ u m, Ans ((intA r)) u m → R u m) : g23 n a0 = some t → F23 (lstA (lstE TJointOption.E) a0) R := by
  unfold g23 F23
  refine imp (opP_of (show _ = some ((intA (a0.length : Int)), []) from rfl)) ?_
  refine imp ex_i64_b ?_
  refine cond_b (fun _ => ?_) (fun _ => ?_)
  · exact fun hg => ret1 (hR _ (Option.some.inj hg).symm) (fz_sc _ _)
  · refine imp (opP_of (show _ = some ((intA (a0.length : Int)), []) from rfl)) ?_
    refine imp ex_i64_b ?_
    exact fun hg => L23_0_ok n (0) a0 (a0.length : Int) R  hR n _ hg (weak_mem [] rfl rfl rfl (okW_cons (.inl (leV_refl _)) (okW_cons (.inl (leV_refl _)) (okW_cons (ent_lst (E := (lstE TJointOption.E)) _ false) (okW_cons (.inl (leV_refl _)) (okW_cons (.inl (leV_refl _)) okW_nil))))) okB_nil')
theorem sg23 {n : Nat} {a0 : List (List TJointOption)} {t : ρ23} (h : g23 n a0 = some t) : Says Try.prog KK.gl 23 [(lstA (lstE TJointOption.E) a0)] ((intA t)) :=
  says_of_own (by first | rfl | simp [cleans, clean, encs_clean, En.cln]) (by first | rfl | simp [cleans, clean, encs_clean, En.cln]) (F23_own (lstA (lstE TJointOption.E) a0) _ (g23_ok n a0 (Ans ((intA t))) (fun r e u m h => by rw [e]; exact h) h))
/- skyway/probe.check -/
theorem B37_0_ok (n : Nat) (c4 : Int) (a1 : List (List TTubeNode)) (c15 : Int) (v16 : Int) {t : (Int) ⊕ ρ37} (R : AV → Mem → Prop) (N0 : St → Prop) (hR : ∀ r : ρ37, t = (.inr r) → ∀ u m, Ans ((intA r)) u m → R u m) (hN0 : ∀ y : Int, t = (.inl y) → ∀ s' : St, Weak KK 26 0 s' (h37_0 c4 (lstA (lstE TTubeNode.E) a1) c15 y []) → N0 s') : S37_0 n c4 a1 c15 v16 = some t → B37_0 c4 (lstA (lstE TTubeNode.E) a1) c15 v16 [] R N0 := by
  unfold S37_0 B37_0
  refine cond_b (fun _ => ?_) (fun _ => ?_)
  · refine bind_b fun x8 h8 => ?_
    refine imp (opP_of (show _ = some ((AV.ept [(lstA TTubeNode.E x8)] 0), []) from (idx_lst (E := (lstE TTubeNode.E)) rfl h8))) ?_
    refine imp (opP_of (show _ = some ((lstA TTubeNode.E x8), []) from rfl)) ?_
    refine bind_b fun x9 h9 => ?_
    refine imp (callQ_says (sg33 h9)) ?_
    refine imp ex_i64_b ?_
    refine cond_b (fun _ => ?_) (fun _ => ?_)
    · exact fun hg => ret1 (hR _ (Option.some.inj hg).symm) (fz_sc _ _)
    · exact fun hg => hN0 _ (Option.some.inj hg).symm _ (weak_mem [] rfl rfl rfl (okW_cons (.inl (leV_refl _)) (okW_cons (ent_lst (E := (lstE TTubeNode.E)) _ false) (okW_cons (.inl (leV_refl _)) (okW_cons (.inl (leV_refl _)) okW_nil)))) okB_nil')
  · exact fun hg => ret1 (hR _ (Option.some.inj hg).symm) (fz_sc _ _)
theorem L37_0_ok (n : Nat) (c4 : Int) (a1 : List (List TTubeNode)) (c15 : Int) {t : ρ37} (R : AV → Mem → Prop) (hR : ∀ r : ρ37, t = r → ∀ u m, Ans ((intA r)) u m → R u m) (k : Nat) (x : Int) (hx : iterO (fun y : Int => S37_0 n c4 a1 c15 y) k x = some t) {s : St} (hw : Weak KK 26 0 s (h37_0 c4 (lstA (lstE TTubeNode.E) a1) c15 x [])) : Tri Try.prog KK 26 0 (.loop c37_0) s (q37_0 R ) :=
  L37_0 R  (σ := Nat × (Int)) (fun z => iterO (fun y : Int => S37_0 n c4 a1 c15 y) z.1 z.2 = some t) (fun z => c4) (fun z => (lstA (lstE TTubeNode.E) a1)) (fun z => c15) (fun z => z.2) (fun z => []) (fun z => z.1) (by
    rintro ⟨k, y⟩ h
    cases k with
    | zero => exact (iterO_zero h).elim
    | succ k =>
      obtain ⟨u, h1, h2, h3⟩ := iterO_elim h
      exact B37_0_ok n c4 a1 c15 y R  _ (fun r e => hR r (h3 _ e).symm)  (fun y' e s' hw => ⟨(k, y'), h2 _ e, Nat.lt_succ_self k, hw⟩) h1) (k, x) hx hw
theorem g37_ok (n : Nat) (a0 : TSep) (a1 : List (List TTubeNode)) {t : ρ37} (R : AV → Mem → Prop) (hR : ∀ r : ρ37, t = r → ∀ u m, Ans ((intA r)) u m → R u m) : g37 n a0 a1 = some t → F37 a0.Lateral a0.Vertical (lstA (lstE TTubeNode.E) a1) R := by
  unfold g37 F37
  refine bind_b fun x7 h7 => ?_
  refine imp (callQ_says (sg36 h7)) ?_
  refine imp ex_i64_b ?_
  refine cond_b (fun _ => ?_) (fun _ => ?_)
  · exact fun hg => ret1 (hR _ (Option.some.inj hg).symm) (fz_sc _ _)
  · refine imp (opP_of (show _ = some ((intA (a1.length : Int)), []) from rfl)) ?_
    refine imp ex_i64_b ?_
    exact fun hg => L37_0_ok n (0) a1 (a1.length : Int) R  hR n _ hg (weak_mem [] rfl rfl rfl (okW_cons (.inl (leV_refl _)) (okW_cons (ent_lst (E := (lstE TTubeNode.E)) _ false) (okW_cons (.inl (leV_refl _)) (okW_cons (.inl (leV_refl _)) okW_nil)))) okB_nil')
theorem sg37 {n : Nat} {a0 : TSep} {a1 : List (List TTubeNode)} {t : ρ37} (h : g37 n a0 a1 = some t) : Says Try.prog KK.gl 37 [(AV.agg [(intA a0.Lateral), (intA a0.Vertical)]), (lstA (lstE TTubeNode.E) a1)] ((intA t)) :=
  says_of_own (by first | rfl | simp [cleans, clean, encs_clean, En.cln]) (by first | rfl | simp [cleans, clean, encs_clean, En.cln]) (F37_own a0.Lateral a0.Vertical (lstA (lstE TTubeNode.E) a1) _ (g37_ok n a0 a1 (Ans ((intA t))) (fun r e u m h => by rw [e]; exact h) h))
/- skyway/probe.common -/
theorem g47_ok (n : Nat) (a0 : List TTubeNode) (a1 : List TTubeNode) {t : ρ47} (R : AV → Mem → Prop) (hR : ∀ r : ρ47, t = r → ∀ u m, Ans ((AV.tup [(intA r.1), (intA r.2)])) u m → R u m) : g47 n a0 a1 = some t → F47 (lstA TTubeNode.E a0) (lstA TTubeNode.E a1) R := by
  unfold g47 F47
  refine bind_b fun x11 h11 => ?_
  refine imp (opP_of (show _ = some ((AV.ept [(intA x11.Node_Time), (intA x11.Node_At_X), (intA x11.Node_At_Y), (intA x11.Node_Height), (intA x11.Radius), (intA x11.Band)] 0), []) from (idx_lst (E := TTubeNode.E) rfl h11))) ?_
  refine imp (opP_of (show _ = some ((AV.ept [(intA x11.Node_Time), (intA x11.Node_At_X), (intA x11.Node_At_Y), (intA x11.Node_Height), (intA x11.Radius), (intA x11.Band)] 0), []) from rfl)) ?_
  refine imp (opP_of (show _ = some ((AV.ept [(intA x11.Node_Time), (intA x11.Node_At_X), (intA x11.Node_At_Y), (intA x11.Node_Height), (intA x11.Radius), (intA x11.Band)] 0), []) from rfl)) ?_
  refine imp (opP_of (show _ = some ((intA x11.Node_Time), []) from rfl)) ?_
  refine imp ex_i64_b ?_
  refine bind_b fun x12 h12 => ?_
  refine imp (opP_of (show _ = some ((AV.ept [(intA x12.Node_Time), (intA x12.Node_At_X), (intA x12.Node_At_Y), (intA x12.Node_Height), (intA x12.Radius), (intA x12.Band)] 0), []) from (idx_lst (E := TTubeNode.E) rfl h12))) ?_
  refine imp (opP_of (show _ = some ((AV.ept [(intA x12.Node_Time), (intA x12.Node_At_X), (intA x12.Node_At_Y), (intA x12.Node_Height), (intA x12.Radius), (intA x12.Band)] 0), []) from rfl)) ?_
  refine imp (opP_of (show _ = some ((AV.ept [(intA x12.Node_Time), (intA x12.Node_At_X), (intA x12.Node_At_Y), (intA x12.Node_Height), (intA x12.Radius), (intA x12.Band)] 0), []) from rfl)) ?_
  refine imp (opP_of (show _ = some ((intA x12.Node_Time), []) from rfl)) ?_
  refine imp ex_i64_b ?_
  refine imp (opP_of (show _ = some ((intA (if x12.Node_Time > x11.Node_Time then x12.Node_Time else x11.Node_Time)), []) from (by kernel_rfl))) ?_
  refine imp ex_i64_b ?_
  refine imp (opP_of (show _ = some ((intA (a0.length : Int)), []) from rfl)) ?_
  refine imp ex_i64_b ?_
  refine bind_b fun x13 h13 => ?_
  refine imp (opP_of (show _ = some ((AV.ept [(intA x13.Node_Time), (intA x13.Node_At_X), (intA x13.Node_At_Y), (intA x13.Node_Height), (intA x13.Radius), (intA x13.Band)] 0), []) from (idx_lst (E := TTubeNode.E) rfl h13))) ?_
  refine imp (opP_of (show _ = some ((AV.ept [(intA x13.Node_Time), (intA x13.Node_At_X), (intA x13.Node_At_Y), (intA x13.Node_Height), (intA x13.Radius), (intA x13.Band)] 0), []) from rfl)) ?_
  refine imp (opP_of (show _ = some ((AV.ept [(intA x13.Node_Time), (intA x13.Node_At_X), (intA x13.Node_At_Y), (intA x13.Node_Height), (intA x13.Radius), (intA x13.Band)] 0), []) from rfl)) ?_
  refine imp (opP_of (show _ = some ((intA x13.Node_Time), []) from rfl)) ?_
  refine imp ex_i64_b ?_
  refine imp (opP_of (show _ = some ((intA (a1.length : Int)), []) from rfl)) ?_
  refine imp ex_i64_b ?_
  refine bind_b fun x14 h14 => ?_
  refine imp (opP_of (show _ = some ((AV.ept [(intA x14.Node_Time), (intA x14.Node_At_X), (intA x14.Node_At_Y), (intA x14.Node_Height), (intA x14.Radius), (intA x14.Band)] 0), []) from (idx_lst (E := TTubeNode.E) rfl h14))) ?_
  refine imp (opP_of (show _ = some ((AV.ept [(intA x14.Node_Time), (intA x14.Node_At_X), (intA x14.Node_At_Y), (intA x14.Node_Height), (intA x14.Radius), (intA x14.Band)] 0), []) from rfl)) ?_
  refine imp (opP_of (show _ = some ((AV.ept [(intA x14.Node_Time), (intA x14.Node_At_X), (intA x14.Node_At_Y), (intA x14.Node_Height), (intA x14.Radius), (intA x14.Band)] 0), []) from rfl)) ?_
  refine imp (opP_of (show _ = some ((intA x14.Node_Time), []) from rfl)) ?_
  refine imp ex_i64_b ?_
  refine imp (opP_of (show _ = some ((intA (if x14.Node_Time < x13.Node_Time then x14.Node_Time else x13.Node_Time)), []) from (by kernel_rfl))) ?_
  refine imp ex_i64_b ?_
  exact fun hg => retN rfl (hR _ (Option.some.inj hg).symm) (fzL_cons (fz_sc _ _) (fzL_cons (fz_sc _ _) fzL_nil))
theorem sg47 {n : Nat} {a0 : List TTubeNode} {a1 : List TTubeNode} {t : ρ47} (h : g47 n a0 a1 = some t) : Says Try.prog KK.gl 47 [(lstA TTubeNode.E a0), (lstA TTubeNode.E a1)] ((AV.tup [(intA t.1), (intA t.2)])) :=
  says_of_own (by first | rfl | simp [cleans, clean, encs_clean, En.cln]) (by first | rfl | simp [cleans, clean, encs_clean, En.cln]) (F47_own (lstA TTubeNode.E a0) (lstA TTubeNode.E a1) _ (g47_ok n a0 a1 (Ans ((AV.tup [(intA t.1), (intA t.2)]))) (fun r e u m h => by rw [e]; exact h) h))
/- skyway/tube.ends -/
theorem g55_ok (n : Nat) (a0 : List TTubeNode) {t : ρ55} (R : AV → Mem → Prop) (hR : ∀ r : ρ55, t = r → ∀ u m, Ans ((AV.tup [(intA r.1), (intA r.2)])) u m → R u m) : g55 n a0 = some t → F55 (lstA TTubeNode.E a0) R := by
  unfold g55 F55
  refine bind_b fun x17 h17 => ?_
  refine imp (opP_of (show _ = some ((AV.ept [(intA x17.Node_Time), (intA x17.Node_At_X), (intA x17.Node_At_Y), (intA x17.Node_Height), (intA x17.Radius), (intA x17.Band)] 0), []) from (idx_lst (E := TTubeNode.E) rfl h17))) ?_
  refine imp (opP_of (show _ = some ((AV.ept [(intA x17.Node_Time), (intA x17.Node_At_X), (intA x17.Node_At_Y), (intA x17.Node_Height), (intA x17.Radius), (intA x17.Band)] 0), []) from rfl)) ?_
  refine imp (opP_of (show _ = some ((AV.ept [(intA x17.Node_Time), (intA x17.Node_At_X), (intA x17.Node_At_Y), (intA x17.Node_Height), (intA x17.Radius), (intA x17.Band)] 0), []) from rfl)) ?_
  refine imp (opP_of (show _ = some ((intA x17.Node_Time), []) from rfl)) ?_
  refine imp ex_i64_b ?_
  refine imp (opP_of (show _ = some ((intA (a0.length : Int)), []) from rfl)) ?_
  refine imp ex_i64_b ?_
  refine bind_b fun x18 h18 => ?_
  refine imp (opP_of (show _ = some ((AV.ept [(intA x18.Node_Time), (intA x18.Node_At_X), (intA x18.Node_At_Y), (intA x18.Node_Height), (intA x18.Radius), (intA x18.Band)] 0), []) from (idx_lst (E := TTubeNode.E) rfl h18))) ?_
  refine imp (opP_of (show _ = some ((AV.ept [(intA x18.Node_Time), (intA x18.Node_At_X), (intA x18.Node_At_Y), (intA x18.Node_Height), (intA x18.Radius), (intA x18.Band)] 0), []) from rfl)) ?_
  refine imp (opP_of (show _ = some ((AV.ept [(intA x18.Node_Time), (intA x18.Node_At_X), (intA x18.Node_At_Y), (intA x18.Node_Height), (intA x18.Radius), (intA x18.Band)] 0), []) from rfl)) ?_
  refine imp (opP_of (show _ = some ((intA x18.Node_Time), []) from rfl)) ?_
  refine imp ex_i64_b ?_
  exact fun hg => retN rfl (hR _ (Option.some.inj hg).symm) (fzL_cons (fz_sc _ _) (fzL_cons (fz_sc _ _) fzL_nil))
theorem sg55 {n : Nat} {a0 : List TTubeNode} {t : ρ55} (h : g55 n a0 = some t) : Says Try.prog KK.gl 55 [(lstA TTubeNode.E a0)] ((AV.tup [(intA t.1), (intA t.2)])) :=
  says_of_own (by first | rfl | simp [cleans, clean, encs_clean, En.cln]) (by first | rfl | simp [cleans, clean, encs_clean, En.cln]) (F55_own (lstA TTubeNode.E a0) _ (g55_ok n a0 (Ans ((AV.tup [(intA t.1), (intA t.2)]))) (fun r e u m h => by rw [e]; exact h) h))
/- skyway/tube.at$1 -/
theorem g69_ok (n : Nat) (a0 : TTubeNode) (a1 : Int) {t : ρ69} (R : AV → Mem → Prop) (hR : ∀ r : ρ69, t = r → ∀ u m, Ans ((intA r)) u m → R u m) : g69 n a0 a1 = some t → F69 a0.Node_Time a0.Node_At_X a0.Node_At_Y a0.Node_Height a0.Radius a0.Band a1 R := by
  unfold g69 F69
  exact fun hg => ret1 (hR _ (Option.some.inj hg).symm) (fz_sc _ _)
theorem sg69 {n : Nat} {a0 : TTubeNode} {a1 : Int} {t : ρ69} (h : g69 n a0 a1 = some t) : Says Try.prog KK.gl 69 [(AV.agg [(intA a0.Node_Time), (intA a0.Node_At_X), (intA a0.Node_At_Y), (intA a0.Node_Height), (intA a0.Radius), (intA a0.Band)]), (intA a1)] ((intA t)) :=
  says_of_own (by first | rfl | simp [cleans, clean, encs_clean, En.cln]) (by first | rfl | simp [cleans, clean, encs_clean, En.cln]) (F69_own a0.Node_Time a0.Node_At_X a0.Node_At_Y a0.Node_Height a0.Radius a0.Band a1 _ (g69_ok n a0 a1 (Ans ((intA t))) (fun r e u m h => by rw [e]; exact h) h))
/- slices.BinarySearchFunc[skyway/api.Tube,skyway/api.TubeNode,int] -/
theorem B68_0_ok (n : Nat) (a0 : List TTubeNode) (a1 : Int) (c6 : Int) (c7 : Bool) (c8 : Int) (v9 : Int) (v10 : Int) {t : (Int × Int) ⊕ ρ68} (R : AV → Mem → Prop) (N0 : St → Prop) (hR : ∀ r : ρ68, t = (.inr r) → ∀ u m, Ans ((AV.tup [(intA r.1), (boolA r.2)])) u m → R u m) (hN0 : ∀ y : Int × Int, t = (.inl y) → ∀ s' : St, Weak KK 49 0 s' (h68_0 (lstA TTubeNode.E a0) a1 (AV.fn 69 []) c6 c7 c8 y.1 y.2 []) → N0 s') : S68_0 n a0 a1 c6 c7 c8 v9 v10 = some t → B68_0 (lstA TTubeNode.E a0) a1 (AV.fn 69 []) c6 c7 c8 v9 v10 [] R N0 := by
  unfold S68_0 B68_0
  refine cond_b (fun _ => ?_) (fun _ => ?_)
  · refine imp (opP_of (show _ = some ((AV.sc (.int .u64 (IntKind.wrap .u64 (IntKind.wrap .i64 (v9 + v10))))), []) from (by kernel_rfl))) ?_
    refine imp ex_u64_b ?_
    refine imp (opP_of (show _ = some ((AV.sc (.int .u64 (Int.fdiv (IntKind.wrap .u64 (IntKind.wrap .i64 (v9 + v10))) 2))), []) from opA_shr1)) ?_
    refine imp ex_u64_b ?_
    refine imp (opP_of (show _ = some ((intA (IntKind.wrap .i64 (Int.fdiv (IntKind.wrap .u64 (IntKind.wrap .i64 (v9 + v10))) 2))), []) from (by kernel_rfl))) ?_
    refine imp ex_i64_b ?_
    refine bind_b fun x20 h20 => ?_
    refine imp (opP_of (show _ = some ((AV.ept [(intA x20.Node_Time), (intA x20.Node_At_X), (intA x20.Node_At_Y), (intA x20.Node_Height), (intA x20.Radius), (intA x20.Band)] 0), []) from (idx_lst (E := TTubeNode.E) rfl h20))) ?_
    refine imp (opP_of (show _ = some ((AV.agg [(intA x20.Node_Time), (intA x20.Node_At_X), (intA x20.Node_At_Y), (intA x20.Node_Height), (intA x20.Radius), (intA x20.Band)]), []) from rfl)) ?_
    refine imp exA6_b ?_
    refine imp ex_i64_b ?_
    refine imp ex_i64_b ?_
    refine imp ex_i64_b ?_
    refine imp ex_i64_b ?_
    refine imp ex_i64_b ?_
    refine imp ex_i64_b ?_
    refine bind_b fun x21 h21 => ?_
    refine imp fnArgs_b ?_
    refine imp (cond_tt rfl) ?_
    refine imp (callQ_says (sg69 h21)) ?_
    refine imp ex_i64_b ?_
    refine cond_b (fun _ => ?_) (fun _ => ?_)
    · exact fun hg => hN0 _ (Option.some.inj hg).symm _ (weak_mem [] rfl rfl rfl (okW_cons (ent_lst (E := TTubeNode.E) _ false) (okW_cons (.inl (leV_refl _)) (okW_cons (.inl (leV_refl _)) (okW_cons (.inl (leV_refl _)) (okW_cons (.inl (leV_refl _)) (okW_cons (.inl (leV_refl _)) (okW_cons (.inl (leV_refl _)) (okW_cons (.inl (leV_refl _)) okW_nil)))))))) okB_nil')
    · exact fun hg => hN0 _ (Option.some.inj hg).symm _ (weak_mem [] rfl rfl rfl (okW_cons (ent_lst (E := TTubeNode.E) _ false) (okW_cons (.inl (leV_refl _)) (okW_cons (.inl (leV_refl _)) (okW_cons (.inl (leV_refl _)) (okW_cons (.inl (leV_refl _)) (okW_cons (.inl (leV_refl _)) (okW_cons (.inl (leV_refl _)) (okW_cons (.inl (leV_refl _)) okW_nil)))))))) okB_nil')
  · refine cond_b (fun _ => ?_) (fun _ => ?_)
    · refine bind_b fun x22 h22 => ?_
      refine imp (opP_of (show _ = some ((AV.ept [(intA x22.Node_Time), (intA x22.Node_At_X), (intA x22.Node_At_Y), (intA x22.Node_Height), (intA x22.Radius), (intA x22.Band)] 0), []) from (idx_lst (E := TTubeNode.E) rfl h22))) ?_
      refine imp (opP_of (show _ = some ((AV.agg [(intA x22.Node_Time), (intA x22.Node_At_X), (intA x22.Node_At_Y), (intA x22.Node_Height), (intA x22.Radius), (intA x22.Band)]), []) from rfl)) ?_
      refine imp exA6_b ?_
      refine imp ex_i64_b ?_
      refine imp ex_i64_b ?_
      refine imp ex_i64_b ?_
      refine imp ex_i64_b ?_
      refine imp ex_i64_b ?_
      refine imp ex_i64_b ?_
      refine bind_b fun x23 h23 => ?_
      refine imp fnArgs_b ?_
      refine imp (cond_tt rfl) ?_
      refine imp (callQ_says (sg69 h23)) ?_
      refine imp ex_i64_b ?_
      exact fun hg => retN rfl (hR _ (Option.some.inj hg).symm) (fzL_cons (fz_sc _ _) (fzL_cons (fz_sc _ _) fzL_nil))
    · exact fun hg => retN rfl (hR _ (Option.some.inj hg).symm) (fzL_cons (fz_sc _ _) (fzL_cons (fz_sc _ _) fzL_nil))
theorem L68_0_ok (n : Nat) (a0 : List TTubeNode) (a1 : Int) (c6 : Int) (c7 : Bool) (c8 : Int) {t : ρ68} (R : AV → Mem → Prop) (hR : ∀ r : ρ68, t = r → ∀ u m, Ans ((AV.tup [(intA r.1), (boolA r.2)])) u m → R u m) (k : Nat) (x : Int × Int) (hx : iterO (fun y : Int × Int => S68_0 n a0 a1 c6 c7 c8 y.1 y.2) k x = some t) {s : St} (hw : Weak KK 49 0 s (h68_0 (lstA TTubeNode.E a0) a1 (AV.fn 69 []) c6 c7 c8 x.1 x.2 [])) : Tri Try.prog KK 49 0 (.loop c68_0) s (q68_0 R ) :=
  L68_0 R  (σ := Nat × (Int × Int)) (fun z => iterO (fun y : Int × Int => S68_0 n a0 a1 c6 c7 c8 y.1 y.2) z.1 z.2 = some t) (fun z => (lstA TTubeNode.E a0)) (fun z => a1) (fun z => (AV.fn 69 [])) (fun z => c6) (fun z => c7) (fun z => c8) (fun z => z.2.1) (fun z => z.2.2) (fun z => []) (fun z => z.1) (by
    rintro ⟨k, y⟩ h
    cases k with
    | zero => exact (iterO_zero h).elim
    | succ k =>
      obtain ⟨u, h1, h2, h3⟩ := iterO_elim h
      exact B68_0_ok n a0 a1 c6 c7 c8 y.1 y.2 R  _ (fun r e => hR r (h3 _ e).symm)  (fun y' e s' hw => ⟨(k, y'), h2 _ e, Nat.lt_succ_self k, hw⟩) h1) (k, x) hx hw
theorem g68_ok (n : Nat) (a0 : List TTubeNode) (a1 : Int) {t : ρ68} (R : AV → Mem → Prop) (hR : ∀ r : ρ68, t = r → ∀ u m, Ans ((AV.tup [(intA r.1), (boolA r.2)])) u m → R u m) : g68 n a0 a1 = some t → F68 (lstA TTubeNode.E a0) a1 (AV.fn 69 []) R := by
  unfold g68 F68
  refine imp (opP_of (show _ = some ((intA (a0.length : Int)), []) from rfl)) ?_
  refine imp ex_i64_b ?_
  exact fun hg => L68_0_ok n a0 a1 (0) false (a0.length : Int) R  hR n _ hg (weak_mem [] rfl rfl rfl (okW_cons (ent_lst (E := TTubeNode.E) _ false) (okW_cons (.inl (leV_refl _)) (okW_cons (.inl (leV_refl _)) (okW_cons (.inl (leV_refl _)) (okW_cons (.inl (leV_refl _)) (okW_cons (.inl (leV_refl _)) (okW_cons (.inl (leV_refl _)) (okW_cons (.inl (leV_refl _)) okW_nil)))))))) okB_nil')
theorem sg68 {n : Nat} {a0 : List TTubeNode} {a1 : Int} {t : ρ68} (h : g68 n a0 a1 = some t) : Says Try.prog KK.gl 68 [(lstA TTubeNode.E a0), (intA a1), (AV.fn 69 [])] ((AV.tup [(intA t.1), (boolA t.2)])) :=
  says_of_own (by first | rfl | simp [cleans, clean, encs_clean, En.cln]) (by first | rfl | simp [cleans, clean, encs_clean, En.cln]) (F68_own (lstA TTubeNode.E a0) a1 (AV.fn 69 []) _ (g68_ok n a0 a1 (Ans ((AV.tup [(intA t.1), (boolA t.2)]))) (fun r e u m h => by rw [e]; exact h) h))
/- skyway/num.DivDown -/
theorem g71_ok (n : Nat) (a0 : Int) (a1 : Int) {t : ρ71} (R : AV → Mem → Prop) (hR : ∀ r : ρ71, t = r → ∀ u m, Ans ((AV.tup [(intA r.1), (intA r.2)])) u m → R u m) : g71 n a0 a1 = some t → F71 a0 a1 R := by
  unfold g71 F71
  refine cond_b (fun _ => ?_) (fun _ => ?_)
  · exact fun hg => retN rfl (hR _ (Option.some.inj hg).symm) (fzL_cons (fz_sc _ _) (fzL_cons (fz_sc _ _) fzL_nil))
  · refine cond_b (fun _ => ?_) (fun _ => ?_)
    · refine cond_b (fun _ => ?_) (fun _ => ?_)
      · exact fun hg => retN rfl (hR _ (Option.some.inj hg).symm) (fzL_cons (fz_sc _ _) (fzL_cons (fz_sc _ _) fzL_nil))
      · refine bind_b fun x32 h32 => ?_
        refine imp (opP_of (show _ = some ((intA (IntKind.wrap .i64 x32)), []) from (opA_quo h32))) ?_
        refine imp ex_i64_b ?_
        refine bind_b fun x33 h33 => ?_
        refine imp (opP_of (show _ = some ((intA x33), []) from (opA_rem h33))) ?_
        refine imp ex_i64_b ?_
        refine cond_b (fun _ => ?_) (fun _ => ?_)
        · refine imp (opP_of (show _ = some ((boolA (!((decide (a0 < (0))) == (decide (a1 < (0)))))), []) from (by kernel_rfl))) ?_
          refine imp exB_b ?_
          refine cond_b (fun _ => ?_) (fun _ => ?_)
          · exact fun hg => retN rfl (hR _ (Option.some.inj hg).symm) (fzL_cons (fz_sc _ _) (fzL_cons (fz_sc _ _) fzL_nil))
          · exact fun hg => retN rfl (hR _ (Option.some.inj hg).symm) (fzL_cons (fz_sc _ _) (fzL_cons (fz_sc _ _) fzL_nil))
        · exact fun hg => retN rfl (hR _ (Option.some.inj hg).symm) (fzL_cons (fz_sc _ _) (fzL_cons (fz_sc _ _) fzL_nil))
    · refine bind_b fun x34 h34 => ?_
      refine imp (opP_of (show _ = some ((intA (IntKind.wrap .i64 x34)), []) from (opA_quo h34))) ?_
      refine imp ex_i64_b ?_
      refine bind_b fun x35 h35 => ?_
      refine imp (opP_of (show _ = some ((intA x35), []) from (opA_rem h35))) ?_
      refine imp ex_i64_b ?_
      refine cond_b (fun _ => ?_) (fun _ => ?_)
      · refine imp (opP_of (show _ = some ((boolA (!((decide (a0 < (0))) == (decide (a1 < (0)))))), []) from (by kernel_rfl))) ?_
        refine imp exB_b ?_
        refine cond_b (fun _ => ?_) (fun _ => ?_)
        · exact fun hg => retN rfl (hR _ (Option.some.inj hg).symm) (fzL_cons (fz_sc _ _) (fzL_cons (fz_sc _ _) fzL_nil))
        · exact fun hg => retN rfl (hR _ (Option.some.inj hg).symm) (fzL_cons (fz_sc _ _) (fzL_cons (fz_sc _ _) fzL_nil))
      · exact fun hg => retN rfl (hR _ (Option.some.inj hg).symm) (fzL_cons (fz_sc _ _) (fzL_cons (fz_sc _ _) fzL_nil))
theorem sg71 {n : Nat} {a0 : Int} {a1 : Int} {t : ρ71} (h : g71 n a0 a1 = some t) : Says Try.prog KK.gl 71 [(intA a0), (intA a1)] ((AV.tup [(intA t.1), (intA t.2)])) :=
  says_of_own (by first | rfl | simp [cleans, clean, encs_clean, En.cln]) (by first | rfl | simp [cleans, clean, encs_clean, En.cln]) (F71_own a0 a1 _ (g71_ok n a0 a1 (Ans ((AV.tup [(intA t.1), (intA t.2)]))) (fun r e u m h => by rw [e]; exact h) h))
/- skyway/plane.Toward -/
theorem g70_ok (n : Nat) (a0 : TP) (a1 : TP) (a2 : Int) (a3 : Int) {t : ρ70} (R : AV → Mem → Prop) (hR : ∀ r : ρ70, t = r → ∀ u m, Ans ((AV.tup [(AV.agg (TP.E.enc r.1)), (intA r.2)])) u m → R u m) : g70 n a0 a1 a2 a3 = some t → F70 a0.X a0.Y a1.X a1.Y a2 a3 R := by
  unfold g70 F70
  refine cond_b (fun _ => ?_) (fun _ => ?_)
  · refine imp (opP_of (show _ = some ((AV.agg [(intA (0)), (intA (0))]), []) from rfl)) ?_
    refine imp (storeW_cells (sz := 2) (by kernel_rfl) (by kernel_rfl) rfl rfl (cs := [(intA (0)), (intA (0))]) (cs' := [(intA (0)), (intA (0))]) (ty := 74) (by first | rfl | (simp (disch := first | decide | assumption) only [mpushs_nil, mpushs_cons, mget_hd, mget_tl, mget_appW_o, mget_appW_n, mget_appW_e])) rfl rfl) ?_
    exact fun hg => retN rfl (hR _ (Option.some.inj hg).symm) (fzL_cons (fz_el (E := TP.E) _ (⟨(0), (0)⟩ : TP)) (fzL_cons (fz_sc _ _) fzL_nil))
  · refine cond_b (fun _ => ?_) (fun _ => ?_)
    · refine imp (opP_of (show _ = some ((AV.agg [(intA (0)), (intA (0))]), []) from rfl)) ?_
      refine imp (storeW_cells (sz := 2) (by kernel_rfl) (by kernel_rfl) rfl rfl (cs := [(intA (0)), (intA (0))]) (cs' := [(intA (0)), (intA (0))]) (ty := 74) (by first | rfl | (simp (disch := first | decide | assumption) only [mpushs_nil, mpushs_cons, mget_hd, mget_tl, mget_appW_o, mget_appW_n, mget_appW_e])) rfl rfl) ?_
      exact fun hg => retN rfl (hR _ (Option.some.inj hg).symm) (fzL_cons (fz_el (E := TP.E) _ (⟨(0), (0)⟩ : TP)) (fzL_cons (fz_sc _ _) fzL_nil))
    · refine cond_b (fun _ => ?_) (fun _ => ?_)
      · refine imp (opP_of (show _ = some ((AV.agg [(intA (0)), (intA (0))]), []) from rfl)) ?_
        refine imp (storeW_cells (sz := 2) (by kernel_rfl) (by kernel_rfl) rfl rfl (cs := [(intA (0)), (intA (0))]) (cs' := [(intA (0)), (intA (0))]) (ty := 74) (by first | rfl | (simp (disch := first | decide | assumption) only [mpushs_nil, mpushs_cons, mget_hd, mget_tl, mget_appW_o, mget_appW_n, mget_appW_e])) rfl rfl) ?_
        exact fun hg => retN rfl (hR _ (Option.some.inj hg).symm) (fzL_cons (fz_el (E := TP.E) _ (⟨(0), (0)⟩ : TP)) (fzL_cons (fz_sc _ _) fzL_nil))
      · refine cond_b (fun _ => ?_) (fun _ => ?_)
        · refine imp (opP_of (show _ = some ((AV.agg [(intA (0)), (intA (0))]), []) from rfl)) ?_
          refine imp (storeW_cells (sz := 2) (by kernel_rfl) (by kernel_rfl) rfl rfl (cs := [(intA (0)), (intA (0))]) (cs' := [(intA (0)), (intA (0))]) (ty := 74) (by first | rfl | (simp (disch := first | decide | assumption) only [mpushs_nil, mpushs_cons, mget_hd, mget_tl, mget_appW_o, mget_appW_n, mget_appW_e])) rfl rfl) ?_
          exact fun hg => retN rfl (hR _ (Option.some.inj hg).symm) (fzL_cons (fz_el (E := TP.E) _ (⟨(0), (0)⟩ : TP)) (fzL_cons (fz_sc _ _) fzL_nil))
        · refine bind_b fun x28 h28 => ?_
          refine imp (callQ_says (sg45 h28)) ?_
          refine imp ex_i64_b ?_
          refine cond_b (fun _ => ?_) (fun _ => ?_)
          · refine imp (opP_of (show _ = some ((AV.agg [(intA (0)), (intA (0))]), []) from rfl)) ?_
            refine bind_b fun x29 h29 => ?_
            refine imp (callQ_says (sg45 h29)) ?_
            refine imp ex_i64_b ?_
            refine imp (storeW_cells (sz := 2) (by kernel_rfl) (by kernel_rfl) rfl rfl (cs := [(intA (0)), (intA (0))]) (cs' := [(intA (0)), (intA (0))]) (ty := 74) (by first | rfl | (simp (disch := first | decide | assumption) only [mpushs_nil, mpushs_cons, mget_hd, mget_tl, mget_appW_o, mget_appW_n, mget_appW_e])) rfl rfl) ?_
            exact fun hg => retN rfl (hR _ (Option.some.inj hg).symm) (fzL_cons (fz_el (E := TP.E) _ (⟨(0), (0)⟩ : TP)) (fzL_cons (fz_sc _ _) fzL_nil))
          · refine bind_b fun x30 h30 => ?_
            refine imp (callQ_says (sg45 h30)) ?_
            refine imp ex_i64_b ?_
            refine cond_b (fun _ => ?_) (fun _ => ?_)
            · refine imp (opP_of (show _ = some ((AV.agg [(intA (0)), (intA (0))]), []) from rfl)) ?_
              refine bind_b fun x31 h31 => ?_
              refine imp (callQ_says (sg45 h31)) ?_
              refine imp ex_i64_b ?_
              refine imp (storeW_cells (sz := 2) (by kernel_rfl) (by kernel_rfl) rfl rfl (cs := [(intA (0)), (intA (0))]) (cs' := [(intA (0)), (intA (0))]) (ty := 74) (by first | rfl | (simp (disch := first | decide | assumption) only [mpushs_nil, mpushs_cons, mget_hd, mget_tl, mget_appW_o, mget_appW_n, mget_appW_e])) rfl rfl) ?_
              exact fun hg => retN rfl (hR _ (Option.some.inj hg).symm) (fzL_cons (fz_el (E := TP.E) _ (⟨(0), (0)⟩ : TP)) (fzL_cons (fz_sc _ _) fzL_nil))
            · refine bind_b fun x36 h36 => ?_
              refine imp (callQ_says (sg71 h36)) ?_
              refine imp exT2_b ?_
              refine imp ex_i64_b ?_
              refine imp ex_i64_b ?_
              refine bind_b fun x37 h37 => ?_
              refine imp (callQ_says (sg71 h37)) ?_
              refine imp exT2_b ?_
              refine imp ex_i64_b ?_
              refine imp ex_i64_b ?_
              refine imp (opP_of (show _ = some ((AV.agg [(intA (IntKind.wrap .i64 (a0.X + x36.1))), (intA (IntKind.wrap .i64 (a0.Y + x37.1)))]), []) from rfl)) ?_
              refine imp (storeW_cells (sz := 2) (by kernel_rfl) (by kernel_rfl) rfl rfl (cs := [(intA (0)), (intA (0))]) (cs' := [(intA (IntKind.wrap .i64 (a0.X + x36.1))), (intA (IntKind.wrap .i64 (a0.Y + x37.1)))]) (ty := 74) (by first | rfl | (simp (disch := first | decide | assumption) only [mpushs_nil, mpushs_cons, mget_hd, mget_tl, mget_appW_o, mget_appW_n, mget_appW_e])) rfl rfl) ?_
              exact fun hg => retN rfl (hR _ (Option.some.inj hg).symm) (fzL_cons (fz_el (E := TP.E) _ (⟨(IntKind.wrap .i64 (a0.X + x36.1)), (IntKind.wrap .i64 (a0.Y + x37.1))⟩ : TP)) (fzL_cons (fz_sc _ _) fzL_nil))
theorem sg70 {n : Nat} {a0 : TP} {a1 : TP} {a2 : Int} {a3 : Int} {t : ρ70} (h : g70 n a0 a1 a2 a3 = some t) : Says Try.prog KK.gl 70 [(AV.agg [(intA a0.X), (intA a0.Y)]), (AV.agg [(intA a1.X), (intA a1.Y)]), (intA a2), (intA a3)] ((AV.tup [(AV.agg (TP.E.enc t.1)), (intA t.2)])) :=
  says_of_own (by first | rfl | simp [cleans, clean, encs_clean, En.cln]) (by first | rfl | simp [cleans, clean, encs_clean, En.cln]) (F70_own a0.X a0.Y a1.X a1.Y a2 a3 _ (g70_ok n a0 a1 a2 a3 (Ans ((AV.tup [(AV.agg (TP.E.enc t.1)), (intA t.2)]))) (fun r e u m h => by rw [e]; exact h) h))
/- skyway/num.DivUp -/
theorem g72_ok (n : Nat) (a0 : Int) (a1 : Int) {t : ρ72} (R : AV → Mem → Prop) (hR : ∀ r : ρ72, t = r → ∀ u m, Ans ((AV.tup [(intA r.1), (intA r.2)])) u m → R u m) : g72 n a0 a1 = some t → F72 a0 a1 R := by
  unfold g72 F72
  refine bind_b fun x40 h40 => ?_
  refine imp (callQ_says (sg71 h40)) ?_
  refine imp exT2_b ?_
  refine imp ex_i64_b ?_
  refine imp ex_i64_b ?_
  refine cond_b (fun _ => ?_) (fun _ => ?_)
  · refine bind_b fun x41 h41 => ?_
    refine imp (opP_of (show _ = some ((intA x41), []) from (opA_rem h41))) ?_
    refine imp ex_i64_b ?_
    refine cond_b (fun _ => ?_) (fun _ => ?_)
    · exact fun hg => retN rfl (hR _ (Option.some.inj hg).symm) (fzL_cons (fz_sc _ _) (fzL_cons (fz_sc _ _) fzL_nil))
    · exact fun hg => retN rfl (hR _ (Option.some.inj hg).symm) (fzL_cons (fz_sc _ _) (fzL_cons (fz_sc _ _) fzL_nil))
  · exact fun hg => retN rfl (hR _ (Option.some.inj hg).symm) (fzL_cons (fz_sc _ _) (fzL_cons (fz_sc _ _) fzL_nil))
theorem sg72 {n : Nat} {a0 : Int} {a1 : Int} {t : ρ72} (h : g72 n a0 a1 = some t) : Says Try.prog KK.gl 72 [(intA a0), (intA a1)] ((AV.tup [(intA t.1), (intA t.2)])) :=
  says_of_own (by first | rfl | simp [cleans, clean, encs_clean, En.cln]) (by first | rfl | simp [cleans, clean, encs_clean, En.cln]) (F72_own a0 a1 _ (g72_ok n a0 a1 (Ans ((AV.tup [(intA t.1), (intA t.2)]))) (fun r e u m h => by rw [e]; exact h) h))
/- skyway/tube.at -/
theorem g56_ok (n : Nat) (a0 : List TTubeNode) (a1 : Int) {t : ρ56} (R : AV → Mem → Prop) (hR : ∀ r : ρ56, t = r → ∀ u m, Ans ((AV.agg (TTubeNode.E.enc r))) u m → R u m) : g56 n a0 a1 = some t → F56 (lstA TTubeNode.E a0) a1 R := by
  unfold g56 F56
  refine bind_b fun x24 h24 => ?_
  refine imp (callW_says (sg68 h24)) ?_
  refine imp exT2_b ?_
  refine imp ex_i64_b ?_
  refine imp exB_b ?_
  refine cond_b (fun _ => ?_) (fun _ => ?_)
  · refine bind_b fun x25 h25 => ?_
    refine imp (opP_of (show _ = some ((AV.ept [(intA x25.Node_Time), (intA x25.Node_At_X), (intA x25.Node_At_Y), (intA x25.Node_Height), (intA x25.Radius), (intA x25.Band)] 0), []) from (idx_lst (E := TTubeNode.E) rfl h25))) ?_
    refine imp (opP_of (show _ = some ((AV.agg [(intA x25.Node_Time), (intA x25.Node_At_X), (intA x25.Node_At_Y), (intA x25.Node_Height), (intA x25.Radius), (intA x25.Band)]), []) from rfl)) ?_
    refine imp exA6_b ?_
    refine imp ex_i64_b ?_
    refine imp ex_i64_b ?_
    refine imp ex_i64_b ?_
    refine imp ex_i64_b ?_
    refine imp ex_i64_b ?_
    refine imp ex_i64_b ?_
    refine imp (storeW_cells (sz := 6) (by kernel_rfl) (by kernel_rfl) rfl rfl (cs := [(intA (0)), (intA (0)), (intA (0)), (intA (0)), (intA (0)), (intA (0))]) (cs' := [(intA x25.Node_Time), (intA x25.Node_At_X), (intA x25.Node_At_Y), (intA x25.Node_Height), (intA x25.Radius), (intA x25.Band)]) (ty := 78) (by first | rfl | (simp (disch := first | decide | assumption) only [mpushs_nil, mpushs_cons, mget_hd, mget_tl, mget_appW_o, mget_appW_n, mget_appW_e])) rfl rfl) ?_
    exact fun hg => ret1 (hR _ (Option.some.inj hg).symm) (fz_el (E := TTubeNode.E) _ x25)
  · refine bind_b fun x26 h26 => ?_
    refine imp (opM_of (show _ = some ((AV.ept [(intA x26.Node_Time), (intA x26.Node_At_X), (intA x26.Node_At_Y), (intA x26.Node_Height), (intA x26.Radius), (intA x26.Band)] 0), []) from (idx_lst (E := TTubeNode.E) rfl h26))) ?_
    refine imp (opM_of (show _ = some ((AV.agg [(intA x26.Node_Time), (intA x26.Node_At_X), (intA x26.Node_At_Y), (intA x26.Node_Height), (intA x26.Radius), (intA x26.Band)]), []) from rfl)) ?_
    refine imp exA6_b ?_
    refine imp ex_i64_b ?_
    refine imp ex_i64_b ?_
    refine imp ex_i64_b ?_
    refine imp ex_i64_b ?_
    refine imp ex_i64_b ?_
    refine imp ex_i64_b ?_
    refine bind_b fun x27 h27 => ?_
    refine imp (opM_of (show _ = some ((AV.ept [(intA x27.Node_Time), (intA x27.Node_At_X), (intA x27.Node_At_Y), (intA x27.Node_Height), (intA x27.Radius), (intA x27.Band)] 0), []) from (idx_lst (E := TTubeNode.E) rfl h27))) ?_
    refine imp (opM_of (show _ = some ((AV.agg [(intA x27.Node_Time), (intA x27.Node_At_X), (intA x27.Node_At_Y), (intA x27.Node_Height), (intA x27.Radius), (intA x27.Band)]), []) from rfl)) ?_
    refine imp exA6_b ?_
    refine imp ex_i64_b ?_
    refine imp ex_i64_b ?_
    refine imp ex_i64_b ?_
    refine imp ex_i64_b ?_
    refine imp ex_i64_b ?_
    refine imp ex_i64_b ?_
    refine imp (storeW_cells (sz := 6) (by kernel_rfl) (by kernel_rfl) rfl rfl (cs := [(intA (0)), (intA (0)), (intA (0)), (intA (0)), (intA (0)), (intA (0))]) (cs' := [(intA x26.Node_Time), (intA x26.Node_At_X), (intA x26.Node_At_Y), (intA x26.Node_Height), (intA x26.Radius), (intA x26.Band)]) (ty := 78) (by first | rfl | (rw [look'_mem (by first | rfl | simp [topId_blk] | simp [topId])]; first | rfl | (simp (disch := first | decide | assumption) only [mpushs_nil, mpushs_cons, mget_hd, mget_tl, mget_appW_o, mget_appW_n, mget_appW_e]))) rfl rfl) ?_
    refine imp (storeW_cells (sz := 6) (by kernel_rfl) (by kernel_rfl) rfl rfl (cs := [(intA (0)), (intA (0)), (intA (0)), (intA (0)), (intA (0)), (intA (0))]) (cs' := [(intA x27.Node_Time), (intA x27.Node_At_X), (intA x27.Node_At_Y), (intA x27.Node_Height), (intA x27.Radius), (intA x27.Band)]) (ty := 78) (by first | rfl | (rw [look'_mem (by first | rfl | simp [topId_blk] | simp [topId])]; first | rfl | (simp (disch := first | decide | assumption) only [mpushs_nil, mpushs_cons, mget_hd, mget_tl, mget_appW_o, mget_appW_n, mget_appW_e]))) rfl rfl) ?_
    refine imp (chk_of (by kernel_rfl)) ?_
    refine imp (opP_of (show _ = some ((intA x26.Node_Time), []) from (ldS_ptr (b := ⟨[(intA x26.Node_Time), (intA x26.Node_At_X), (intA x26.Node_At_Y), (intA x26.Node_Height), (intA x26.Radius), (intA x26.Band)], 78⟩) (by first | rfl | (simp (disch := first | decide | assumption) only [mpushs_nil, mpushs_cons, mget_hd, mget_tl, mget_appW_o, mget_appW_n, mget_appW_e])) rfl))) ?_
    refine imp ex_i64_b ?_
    refine imp (opP_of (show _ = some ((intA x27.Node_Time), []) from (ldS_ptr (b := ⟨[(intA x27.Node_Time), (intA x27.Node_At_X), (intA x27.Node_At_Y), (intA x27.Node_Height), (intA x27.Radius), (intA x27.Band)], 78⟩) (by first | rfl | (simp (disch := first | decide | assumption) only [mpushs_nil, mpushs_cons, mget_hd, mget_tl, mget_appW_o, mget_appW_n, mget_appW_e])) rfl))) ?_
    refine imp ex_i64_b ?_
    refine imp (opP_of (show _ = some ((intA x26.Node_Time), []) from (ldS_ptr (b := ⟨[(intA x26.Node_Time), (intA x26.Node_At_X), (intA x26.Node_At_Y), (intA x26.Node_Height), (intA x26.Radius), (intA x26.Band)], 78⟩) (by first | rfl | (simp (disch := first | decide | assumption) only [mpushs_nil, mpushs_cons, mget_hd, mget_tl, mget_appW_o, mget_appW_n, mget_appW_e])) rfl))) ?_
    refine imp ex_i64_b ?_
    refine imp (opP_of (show _ = some ((AV.agg [(intA x26.Node_At_X), (intA x26.Node_At_Y)]), []) from (ldA_ptr (b := ⟨[(intA x26.Node_Time), (intA x26.Node_At_X), (intA x26.Node_At_Y), (intA x26.Node_Height), (intA x26.Radius), (intA x26.Band)], 78⟩) (by first | rfl | (simp (disch := first | decide | assumption) only [mpushs_nil, mpushs_cons, mget_hd, mget_tl, mget_appW_o, mget_appW_n, mget_appW_e])) rfl))) ?_
    refine imp exA2_b ?_
    refine imp ex_i64_b ?_
    refine imp ex_i64_b ?_
    refine imp (opP_of (show _ = some ((AV.agg [(intA x27.Node_At_X), (intA x27.Node_At_Y)]), []) from (ldA_ptr (b := ⟨[(intA x27.Node_Time), (intA x27.Node_At_X), (intA x27.Node_At_Y), (intA x27.Node_Height), (intA x27.Radius), (intA x27.Band)], 78⟩) (by first | rfl | (simp (disch := first | decide | assumption) only [mpushs_nil, mpushs_cons, mget_hd, mget_tl, mget_appW_o, mget_appW_n, mget_appW_e])) rfl))) ?_
    refine imp exA2_b ?_
    refine imp ex_i64_b ?_
    refine imp ex_i64_b ?_
    refine bind_b fun x38 h38 => ?_
    refine imp (callQ_says (sg70 h38)) ?_
    refine imp exT2_b ?_
    refine imp exA2_b ?_
    refine imp ex_i64_b ?_
    refine imp ex_i64_b ?_
    refine imp ex_i64_b ?_
    refine imp (opP_of (show _ = some ((intA x27.Node_Height), []) from (ldS_ptr (b := ⟨[(intA x27.Node_Time), (intA x27.Node_At_X), (intA x27.Node_At_Y), (intA x27.Node_Height), (intA x27.Radius), (intA x27.Band)], 78⟩) (by first | rfl | (simp (disch := first | decide | assumption) only [mpushs_nil, mpushs_cons, mget_hd, mget_tl, mget_appW_o, mget_appW_n, mget_appW_e])) rfl))) ?_
    refine imp ex_i64_b ?_
    refine imp (opP_of (show _ = some ((intA x26.Node_Height), []) from (ldS_ptr (b := ⟨[(intA x26.Node_Time), (intA x26.Node_At_X), (intA x26.Node_At_Y), (intA x26.Node_Height), (intA x26.Radius), (intA x26.Band)], 78⟩) (by first | rfl | (simp (disch := first | decide | assumption) only [mpushs_nil, mpushs_cons, mget_hd, mget_tl, mget_appW_o, mget_appW_n, mget_appW_e])) rfl))) ?_
    refine imp ex_i64_b ?_
    refine bind_b fun x39 h39 => ?_
    refine imp (callQ_says (sg71 h39)) ?_
    refine imp exT2_b ?_
    refine imp ex_i64_b ?_
    refine imp ex_i64_b ?_
    refine imp (opP_of (show _ = some ((intA x27.Radius), []) from (ldS_ptr (b := ⟨[(intA x27.Node_Time), (intA x27.Node_At_X), (intA x27.Node_At_Y), (intA x27.Node_Height), (intA x27.Radius), (intA x27.Band)], 78⟩) (by first | rfl | (simp (disch := first | decide | assumption) only [mpushs_nil, mpushs_cons, mget_hd, mget_tl, mget_appW_o, mget_appW_n, mget_appW_e])) rfl))) ?_
    refine imp ex_i64_b ?_
    refine imp (opP_of (show _ = some ((intA x26.Radius), []) from (ldS_ptr (b := ⟨[(intA x26.Node_Time), (intA x26.Node_At_X), (intA x26.Node_At_Y), (intA x26.Node_Height), (intA x26.Radius), (intA x26.Band)], 78⟩) (by first | rfl | (simp (disch := first | decide | assumption) only [mpushs_nil, mpushs_cons, mget_hd, mget_tl, mget_appW_o, mget_appW_n, mget_appW_e])) rfl))) ?_
    refine imp ex_i64_b ?_
    refine bind_b fun x42 h42 => ?_
    refine imp (callQ_says (sg72 h42)) ?_
    refine imp exT2_b ?_
    refine imp ex_i64_b ?_
    refine imp ex_i64_b ?_
    refine imp (opP_of (show _ = some ((intA x27.Band), []) from (ldS_ptr (b := ⟨[(intA x27.Node_Time), (intA x27.Node_At_X), (intA x27.Node_At_Y), (intA x27.Node_Height), (intA x27.Radius), (intA x27.Band)], 78⟩) (by first | rfl | (simp (disch := first | decide | assumption) only [mpushs_nil, mpushs_cons, mget_hd, mget_tl, mget_appW_o, mget_appW_n, mget_appW_e])) rfl))) ?_
    refine imp ex_i64_b ?_
    refine imp (opP_of (show _ = some ((intA x26.Band), []) from (ldS_ptr (b := ⟨[(intA x26.Node_Time), (intA x26.Node_At_X), (intA x26.Node_At_Y), (intA x26.Node_Height), (intA x26.Radius), (intA x26.Band)], 78⟩) (by first | rfl | (simp (disch := first | decide | assumption) only [mpushs_nil, mpushs_cons, mget_hd, mget_tl, mget_appW_o, mget_appW_n, mget_appW_e])) rfl))) ?_
    refine imp ex_i64_b ?_
    refine bind_b fun x43 h43 => ?_
    refine imp (callQ_says (sg72 h43)) ?_
    refine imp exT2_b ?_
    refine imp ex_i64_b ?_
    refine imp ex_i64_b ?_
    refine imp (opP_of (show _ = some ((intA x26.Node_Height), []) from (ldS_ptr (b := ⟨[(intA x26.Node_Time), (intA x26.Node_At_X), (intA x26.Node_At_Y), (intA x26.Node_Height), (intA x26.Radius), (intA x26.Band)], 78⟩) (by first | rfl | (simp (disch := first | decide | assumption) only [mpushs_nil, mpushs_cons, mget_hd, mget_tl, mget_appW_o, mget_appW_n, mget_appW_e])) rfl))) ?_
    refine imp ex_i64_b ?_
    refine imp (opP_of (show _ = some ((AV.agg [(intA a1), (intA x38.1.X), (intA x38.1.Y), (intA (IntKind.wrap .i64 (x26.Node_Height + x39.1)))]), []) from rfl)) ?_
    refine imp (opP_of (show _ = some ((intA x26.Radius), []) from (ldS_ptr (b := ⟨[(intA x26.Node_Time), (intA x26.Node_At_X), (intA x26.Node_At_Y), (intA x26.Node_Height), (intA x26.Radius), (intA x26.Band)], 78⟩) (by first | rfl | (simp (disch := first | decide | assumption) only [mpushs_nil, mpushs_cons, mget_hd, mget_tl, mget_appW_o, mget_appW_n, mget_appW_e])) rfl))) ?_
    refine imp ex_i64_b ?_
    refine imp (opP_of (show _ = some ((intA x26.Band), []) from (ldS_ptr (b := ⟨[(intA x26.Node_Time), (intA x26.Node_At_X), (intA x26.Node_At_Y), (intA x26.Node_Height), (intA x26.Radius), (intA x26.Band)], 78⟩) (by first | rfl | (simp (disch := first | decide | assumption) only [mpushs_nil, mpushs_cons, mget_hd, mget_tl, mget_appW_o, mget_appW_n, mget_appW_e])) rfl))) ?_
    refine imp ex_i64_b ?_
    refine imp (opP_of (show _ = some ((AV.agg [(intA a1), (intA x38.1.X), (intA x38.1.Y), (intA (IntKind.wrap .i64 (x26.Node_Height + x39.1))), (intA (IntKind.wrap .i64 (x26.Radius + x42.1))), (intA (IntKind.wrap .i64 (x26.Band + x43.1)))]), []) from rfl)) ?_
    refine imp (storeW_cells (sz := 6) (by kernel_rfl) (by kernel_rfl) rfl rfl (cs := [(intA (0)), (intA (0)), (intA (0)), (intA (0)), (intA (0)), (intA (0))]) (cs' := [(intA a1), (intA x38.1.X), (intA x38.1.Y), (intA (IntKind.wrap .i64 (x26.Node_Height + x39.1))), (intA (IntKind.wrap .i64 (x26.Radius + x42.1))), (intA (IntKind.wrap .i64 (x26.Band + x43.1)))]) (ty := 78) (by first | rfl | (simp (disch := first | decide | assumption) only [mpushs_nil, mpushs_cons, mget_hd, mget_tl, mget_appW_o, mget_appW_n, mget_appW_e])) rfl rfl) ?_
    exact fun hg => ret1 (hR _ (Option.some.inj hg).symm) (fz_el (E := TTubeNode.E) _ (⟨a1, x38.1.X, x38.1.Y, (IntKind.wrap .i64 (x26.Node_Height + x39.1)), (IntKind.wrap .i64 (x26.Radius + x42.1)), (IntKind.wrap .i64 (x26.Band + x43.1))⟩ : TTubeNode))
theorem sg56 {n : Nat} {a0 : List TTubeNode} {a1 : Int} {t : ρ56} (h : g56 n a0 a1 = some t) : Says Try.prog KK.gl 56 [(lstA TTubeNode.E a0), (intA a1)] ((AV.agg (TTubeNode.E.enc t))) :=
  says_of_own (by first | rfl | simp [cleans, clean, encs_clean, En.cln]) (by first | rfl | simp [cleans, clean, encs_clean, En.cln]) (F56_own (lstA TTubeNode.E a0) a1 _ (g56_ok n a0 a1 (Ans ((AV.agg (TTubeNode.E.enc t)))) (fun r e u m h => by rw [e]; exact h) h))
/- skyway/tube.At -/
theorem g48_ok (n : Nat) (a0 : List TTubeNode) (a1 : Int) {t : ρ48} (R : AV → Mem → Prop) (hR : ∀ r : ρ48, t = r → ∀ u m, Ans ((AV.tup [(AV.agg (TTubeNode.E.enc r.1)), (intA r.2)])) u m → R u m) : g48 n a0 a1 = some t → F48 (lstA TTubeNode.E a0) a1 R := by
  unfold g48 F48
  refine bind_b fun x16 h16 => ?_
  refine imp (callQ_says (sg33 h16)) ?_
  refine imp ex_i64_b ?_
  refine cond_b (fun _ => ?_) (fun _ => ?_)
  · refine imp (opP_of (show _ = some ((AV.agg [(intA (0)), (intA (0)), (intA (0)), (intA (0)), (intA (0)), (intA (0))]), []) from rfl)) ?_
    refine imp (storeW_cells (sz := 6) (by kernel_rfl) (by kernel_rfl) rfl rfl (cs := [(intA (0)), (intA (0)), (intA (0)), (intA (0)), (intA (0)), (intA (0))]) (cs' := [(intA (0)), (intA (0)), (intA (0)), (intA (0)), (intA (0)), (intA (0))]) (ty := 78) (by first | rfl | (simp (disch := first | decide | assumption) only [mpushs_nil, mpushs_cons, mget_hd, mget_tl, mget_appW_o, mget_appW_n, mget_appW_e])) rfl rfl) ?_
    exact fun hg => retN rfl (hR _ (Option.some.inj hg).symm) (fzL_cons (fz_el (E := TTubeNode.E) _ (⟨(0), (0), (0), (0), (0), (0)⟩ : TTubeNode)) (fzL_cons (fz_sc _ _) fzL_nil))
  · refine bind_b fun x19 h19 => ?_
    refine imp (callQ_says (sg55 h19)) ?_
    refine imp exT2_b ?_
    refine imp ex_i64_b ?_
    refine imp ex_i64_b ?_
    refine cond_b (fun _ => ?_) (fun _ => ?_)
    · refine imp (opP_of (show _ = some ((AV.agg [(intA (0)), (intA (0)), (intA (0)), (intA (0)), (intA (0)), (intA (0))]), []) from rfl)) ?_
      refine imp (storeW_cells (sz := 6) (by kernel_rfl) (by kernel_rfl) rfl rfl (cs := [(intA (0)), (intA (0)), (intA (0)), (intA (0)), (intA (0)), (intA (0))]) (cs' := [(intA (0)), (intA (0)), (intA (0)), (intA (0)), (intA (0)), (intA (0))]) (ty := 78) (by first | rfl | (simp (disch := first | decide | assumption) only [mpushs_nil, mpushs_cons, mget_hd, mget_tl, mget_appW_o, mget_appW_n, mget_appW_e])) rfl rfl) ?_
      exact fun hg => retN rfl (hR _ (Option.some.inj hg).symm) (fzL_cons (fz_el (E := TTubeNode.E) _ (⟨(0), (0), (0), (0), (0), (0)⟩ : TTubeNode)) (fzL_cons (fz_sc _ _) fzL_nil))
    · refine cond_b (fun _ => ?_) (fun _ => ?_)
      · refine imp (opP_of (show _ = some ((AV.agg [(intA (0)), (intA (0)), (intA (0)), (intA (0)), (intA (0)), (intA (0))]), []) from rfl)) ?_
        refine imp (storeW_cells (sz := 6) (by kernel_rfl) (by kernel_rfl) rfl rfl (cs := [(intA (0)), (intA (0)), (intA (0)), (intA (0)), (intA (0)), (intA (0))]) (cs' := [(intA (0)), (intA (0)), (intA (0)), (intA (0)), (intA (0)), (intA (0))]) (ty := 78) (by first | rfl | (simp (disch := first | decide | assumption) only [mpushs_nil, mpushs_cons, mget_hd, mget_tl, mget_appW_o, mget_appW_n, mget_appW_e])) rfl rfl) ?_
        exact fun hg => retN rfl (hR _ (Option.some.inj hg).symm) (fzL_cons (fz_el (E := TTubeNode.E) _ (⟨(0), (0), (0), (0), (0), (0)⟩ : TTubeNode)) (fzL_cons (fz_sc _ _) fzL_nil))
      · refine bind_b fun x44 h44 => ?_
        refine imp (callQ_says (sg56 h44)) ?_
        refine imp exA6_b ?_
        refine imp ex_i64_b ?_
        refine imp ex_i64_b ?_
        refine imp ex_i64_b ?_
        refine imp ex_i64_b ?_
        refine imp ex_i64_b ?_
        refine imp ex_i64_b ?_
        exact fun hg => retN rfl (hR _ (Option.some.inj hg).symm) (fzL_cons (fz_el (E := TTubeNode.E) _ x44) (fzL_cons (fz_sc _ _) fzL_nil))
theorem sg48 {n : Nat} {a0 : List TTubeNode} {a1 : Int} {t : ρ48} (h : g48 n a0 a1 = some t) : Says Try.prog KK.gl 48 [(lstA TTubeNode.E a0), (intA a1)] ((AV.tup [(AV.agg (TTubeNode.E.enc t.1)), (intA t.2)])) :=
  says_of_own (by first | rfl | simp [cleans, clean, encs_clean, En.cln]) (by first | rfl | simp [cleans, clean, encs_clean, En.cln]) (F48_own (lstA TTubeNode.E a0) a1 _ (g48_ok n a0 a1 (Ans ((AV.tup [(AV.agg (TTubeNode.E.enc t.1)), (intA t.2)]))) (fun r e u m h => by rw [e]; exact h) h))
/- skyway/plane.Sub -/
theorem g80_ok (n : Nat) (a0 : TP) (a1 : TP) {t : ρ80} (R : AV → Mem → Prop) (hR : ∀ r : ρ80, t = r → ∀ u m, Ans ((AV.agg (TP.E.enc r))) u m → R u m) : g80 n a0 a1 = some t → F80 a0.X a0.Y a1.X a1.Y R := by
  unfold g80 F80
  refine imp (opP_of (show _ = some ((AV.agg [(intA (IntKind.wrap .i64 (a0.X - a1.X))), (intA (IntKind.wrap .i64 (a0.Y - a1.Y)))]), []) from rfl)) ?_
  refine imp (storeW_cells (sz := 2) (by kernel_rfl) (by kernel_rfl) rfl rfl (cs := [(intA (0)), (intA (0))]) (cs' := [(intA (IntKind.wrap .i64 (a0.X - a1.X))), (intA (IntKind.wrap .i64 (a0.Y - a1.Y)))]) (ty := 74) (by first | rfl | (simp (disch := first | decide | assumption) only [mpushs_nil, mpushs_cons, mget_hd, mget_tl, mget_appW_o, mget_appW_n, mget_appW_e])) rfl rfl) ?_
  exact fun hg => ret1 (hR _ (Option.some.inj hg).symm) (fz_el (E := TP.E) _ (⟨(IntKind.wrap .i64 (a0.X - a1.X)), (IntKind.wrap .i64 (a0.Y - a1.Y))⟩ : TP))
theorem sg80 {n : Nat} {a0 : TP} {a1 : TP} {t : ρ80} (h : g80 n a0 a1 = some t) : Says Try.prog KK.gl 80 [(AV.agg [(intA a0.X), (intA a0.Y)]), (AV.agg [(intA a1.X), (intA a1.Y)])] ((AV.agg (TP.E.enc t))) :=
  says_of_own (by first | rfl | simp [cleans, clean, encs_clean, En.cln]) (by first | rfl | simp [cleans, clean, encs_clean, En.cln]) (F80_own a0.X a0.Y a1.X a1.Y _ (g80_ok n a0 a1 (Ans ((AV.agg (TP.E.enc t)))) (fun r e u m h => by rw [e]; exact h) h))
/- skyway/plane.Dot -/
theorem g81_ok (n : Nat) (a0 : TP) (a1 : TP) {t : ρ81} (R : AV → Mem → Prop) (hR : ∀ r : ρ81, t = r → ∀ u m, Ans ((intA r)) u m → R u m) : g81 n a0 a1 = some t → F81 a0.X a0.Y a1.X a1.Y R := by
  unfold g81 F81
  exact fun hg => ret1 (hR _ (Option.some.inj hg).symm) (fz_sc _ _)
theorem sg81 {n : Nat} {a0 : TP} {a1 : TP} {t : ρ81} (h : g81 n a0 a1 = some t) : Says Try.prog KK.gl 81 [(AV.agg [(intA a0.X), (intA a0.Y)]), (AV.agg [(intA a1.X), (intA a1.Y)])] ((intA t)) :=
  says_of_own (by first | rfl | simp [cleans, clean, encs_clean, En.cln]) (by first | rfl | simp [cleans, clean, encs_clean, En.cln]) (F81_own a0.X a0.Y a1.X a1.Y _ (g81_ok n a0 a1 (Ans ((intA t))) (fun r e u m h => by rw [e]; exact h) h))
/- skyway/plane.Square -/
theorem g73_ok (n : Nat) (a0 : TP) (a1 : TP) {t : ρ73} (R : AV → Mem → Prop) (hR : ∀ r : ρ73, t = r → ∀ u m, Ans ((intA r)) u m → R u m) : g73 n a0 a1 = some t → F73 a0.X a0.Y a1.X a1.Y R := by
  unfold g73 F73
  refine bind_b fun x47 h47 => ?_
  refine imp (callQ_says (sg80 h47)) ?_
  refine imp exA2_b ?_
  refine imp ex_i64_b ?_
  refine imp ex_i64_b ?_
  refine bind_b fun x48 h48 => ?_
  refine imp (callQ_says (sg81 h48)) ?_
  refine imp ex_i64_b ?_
  exact fun hg => ret1 (hR _ (Option.some.inj hg).symm) (fz_sc _ _)
theorem sg73 {n : Nat} {a0 : TP} {a1 : TP} {t : ρ73} (h : g73 n a0 a1 = some t) : Says Try.prog KK.gl 73 [(AV.agg [(intA a0.X), (intA a0.Y)]), (AV.agg [(intA a1.X), (intA a1.Y)])] ((intA t)) :=
  says_of_own (by first | rfl | simp [cleans, clean, encs_clean, En.cln]) (by first | rfl | simp [cleans, clean, encs_clean, En.cln]) (F73_own a0.X a0.Y a1.X a1.Y _ (g73_ok n a0 a1 (Ans ((intA t))) (fun r e u m h => by rw [e]; exact h) h))
/- skyway/num.Root -/
theorem B74_0_ok (n : Nat) (a0 : Int) (c2 : Int) (v3 : Int) (v4 : Int) {t : (Int × Int) ⊕ ρ74} (R : AV → Mem → Prop) (N0 : St → Prop) (hR : ∀ r : ρ74, t = (.inr r) → ∀ u m, Ans ((intA r)) u m → R u m) (hN0 : ∀ y : Int × Int, t = (.inl y) → ∀ s' : St, Weak KK 27 0 s' (h74_0 a0 c2 y.1 y.2 []) → N0 s') : S74_0 n a0 c2 v3 v4 = some t → B74_0 a0 c2 v3 v4 [] R N0 := by
  unfold S74_0 B74_0
  refine cond_b (fun _ => ?_) (fun _ => ?_)
  · refine cond_b (fun _ => ?_) (fun _ => ?_)
    · exact fun hg => hN0 _ (Option.some.inj hg).symm _ (weak_mem [] rfl rfl rfl (okW_cons (.inl (leV_refl _)) (okW_cons (.inl (leV_refl _)) (okW_cons (.inl (leV_refl _)) (okW_cons (.inl (leV_refl _)) okW_nil)))) okB_nil')
    · exact fun hg => hN0 _ (Option.some.inj hg).symm _ (weak_mem [] rfl rfl rfl (okW_cons (.inl (leV_refl _)) (okW_cons (.inl (leV_refl _)) (okW_cons (.inl (leV_refl _)) (okW_cons (.inl (leV_refl _)) okW_nil)))) okB_nil')
  · exact fun hg => ret1 (hR _ (Option.some.inj hg).symm) (fz_sc _ _)
theorem L74_0_ok (n : Nat) (a0 : Int) (c2 : Int) {t : ρ74} (R : AV → Mem → Prop) (hR : ∀ r : ρ74, t = r → ∀ u m, Ans ((intA r)) u m → R u m) (k : Nat) (x : Int × Int) (hx : iterO (fun y : Int × Int => S74_0 n a0 c2 y.1 y.2) k x = some t) {s : St} (hw : Weak KK 27 0 s (h74_0 a0 c2 x.1 x.2 [])) : Tri Try.prog KK 27 0 (.loop c74_0) s (q74_0 R ) :=
  L74_0 R  (σ := Nat × (Int × Int)) (fun z => iterO (fun y : Int × Int => S74_0 n a0 c2 y.1 y.2) z.1 z.2 = some t) (fun z => a0) (fun z => c2) (fun z => z.2.1) (fun z => z.2.2) (fun z => []) (fun z => z.1) (by
    rintro ⟨k, y⟩ h
    cases k with
    | zero => exact (iterO_zero h).elim
    | succ k =>
      obtain ⟨u, h1, h2, h3⟩ := iterO_elim h
      exact B74_0_ok n a0 c2 y.1 y.2 R  _ (fun r e => hR r (h3 _ e).symm)  (fun y' e s' hw => ⟨(k, y'), h2 _ e, Nat.lt_succ_self k, hw⟩) h1) (k, x) hx hw
theorem g74_ok (n : Nat) (a0 : Int) {t : ρ74} (R : AV → Mem → Prop) (hR : ∀ r : ρ74, t = r → ∀ u m, Ans ((intA r)) u m → R u m) : g74 n a0 = some t → F74 a0 R := by
  unfold g74 F74
  refine cond_b (fun _ => ?_) (fun _ => ?_)
  · exact fun hg => ret1 (hR _ (Option.some.inj hg).symm) (fz_sc _ _)
  · exact fun hg => L74_0_ok n a0 (0) R  hR n _ hg (weak_mem [] rfl rfl rfl (okW_cons (.inl (leV_refl _)) (okW_cons (.inl (leV_refl _)) (okW_cons (.inl (leV_refl _)) (okW_cons (.inl (leV_refl _)) okW_nil)))) okB_nil')
theorem sg74 {n : Nat} {a0 : Int} {t : ρ74} (h : g74 n a0 = some t) : Says Try.prog KK.gl 74 [(intA a0)] ((intA t)) :=
  says_of_own (by first | rfl | simp [cleans, clean, encs_clean, En.cln]) (by first | rfl | simp [cleans, clean, encs_clean, En.cln]) (F74_own a0 _ (g74_ok n a0 (Ans ((intA t))) (fun r e u m h => by rw [e]; exact h) h))
/- skyway/plane.Distance -/
theorem g57_ok (n : Nat) (a0 : TP) (a1 : TP) {t : ρ57} (R : AV → Mem → Prop) (hR : ∀ r : ρ57, t = r → ∀ u m, Ans ((AV.tup [(intA r.1), (intA r.2)])) u m → R u m) : g57 n a0 a1 = some t → F57 a0.X a0.Y a1.X a1.Y R := by
  unfold g57 F57
  refine bind_b fun x49 h49 => ?_
  refine imp (callQ_says (sg73 h49)) ?_
  refine imp ex_i64_b ?_
  refine bind_b fun x50 h50 => ?_
  refine imp (callQ_says (sg74 h50)) ?_
  refine imp ex_i64_b ?_
  refine cond_b (fun _ => ?_) (fun _ => ?_)
  · exact fun hg => retN rfl (hR _ (Option.some.inj hg).symm) (fzL_cons (fz_sc _ _) (fzL_cons (fz_sc _ _) fzL_nil))
  · exact fun hg => retN rfl (hR _ (Option.some.inj hg).symm) (fzL_cons (fz_sc _ _) (fzL_cons (fz_sc _ _) fzL_nil))
theorem sg57 {n : Nat} {a0 : TP} {a1 : TP} {t : ρ57} (h : g57 n a0 a1 = some t) : Says Try.prog KK.gl 57 [(AV.agg [(intA a0.X), (intA a0.Y)]), (AV.agg [(intA a1.X), (intA a1.Y)])] ((AV.tup [(intA t.1), (intA t.2)])) :=
  says_of_own (by first | rfl | simp [cleans, clean, encs_clean, En.cln]) (by first | rfl | simp [cleans, clean, encs_clean, En.cln]) (F57_own a0.X a0.Y a1.X a1.Y _ (g57_ok n a0 a1 (Ans ((AV.tup [(intA t.1), (intA t.2)]))) (fun r e u m h => by rw [e]; exact h) h))
/- skyway/probe.separated -/
theorem g49_ok (n : Nat) (a0 : TTubeNode) (a1 : TTubeNode) (a2 : TSep) {t : ρ49} (R : AV → Mem → Prop) (hR : ∀ r : ρ49, t = r → ∀ u m, Ans ((boolA r)) u m → R u m) : g49 n a0 a1 a2 = some t → F49 a0.Node_Time a0.Node_At_X a0.Node_At_Y a0.Node_Height a0.Radius a0.Band a1.Node_Time a1.Node_At_X a1.Node_At_Y a1.Node_Height a1.Radius a1.Band a2.Lateral a2.Vertical R := by
  unfold g49 F49
  refine bind_b fun x51 h51 => ?_
  refine imp (callQ_says (sg57 h51)) ?_
  refine imp exT2_b ?_
  refine imp ex_i64_b ?_
  refine imp ex_i64_b ?_
  refine cond_b (fun _ => ?_) (fun _ => ?_)
  · exact fun hg => ret1 (hR _ (Option.some.inj hg).symm) (fz_sc _ _)
  · refine imp (opP_of (show _ = some ((intA (if (IntKind.wrap .i64 (a1.Node_Height - a0.Node_Height)) > (IntKind.wrap .i64 (a0.Node_Height - a1.Node_Height)) then (IntKind.wrap .i64 (a1.Node_Height - a0.Node_Height)) else (IntKind.wrap .i64 (a0.Node_Height - a1.Node_Height)))), []) from (by kernel_rfl))) ?_
    refine imp ex_i64_b ?_
    exact fun hg => ret1 (hR _ (Option.some.inj hg).symm) (fz_sc _ _)
theorem sg49 {n : Nat} {a0 : TTubeNode} {a1 : TTubeNode} {a2 : TSep} {t : ρ49} (h : g49 n a0 a1 a2 = some t) : Says Try.prog KK.gl 49 [(AV.agg [(intA a0.Node_Time), (intA a0.Node_At_X), (intA a0.Node_At_Y), (intA a0.Node_Height), (intA a0.Radius), (intA a0.Band)]), (AV.agg [(intA a1.Node_Time), (intA a1.Node_At_X), (intA a1.Node_At_Y), (intA a1.Node_Height), (intA a1.Radius), (intA a1.Band)]), (AV.agg [(intA a2.Lateral), (intA a2.Vertical)])] ((boolA t)) :=
  says_of_own (by first | rfl | simp [cleans, clean, encs_clean, En.cln]) (by first | rfl | simp [cleans, clean, encs_clean, En.cln]) (F49_own a0.Node_Time a0.Node_At_X a0.Node_At_Y a0.Node_Height a0.Radius a0.Band a1.Node_Time a1.Node_At_X a1.Node_At_Y a1.Node_Height a1.Radius a1.Band a2.Lateral a2.Vertical _ (g49_ok n a0 a1 a2 (Ans ((boolA t))) (fun r e u m h => by rw [e]; exact h) h))
/- skyway/probe.spans -/
theorem B38_0_ok (n : Nat) (a0 : List TTubeNode) (a1 : List TTubeNode) (c9 : Int) (k0_0 : Int) (k0_1 : Int) (v10 : Int) (L90000 : List TSpan) {t : (Int × List TSpan) ⊕ ρ38} (R : AV → Mem → Prop) (N0 : St → Prop) (hR : ∀ r : ρ38, t = (.inr r) → ∀ u m, Ans ((lstA TSpan.E r)) u m → R u m) (hN0 : ∀ y : Int × List TSpan, t = (.inl y) → ∀ s' : St, Weak KK 73 0 s' (h38_0 (lstA TTubeNode.E a0) (lstA TTubeNode.E a1) AV.nils (ownV TSpan.E 90000 y.2) c9 y.1 k0_0 k0_1 [(90000, ownB TSpan.E 87 y.2)]) → N0 s') : S38_0 n a0 a1 c9 k0_0 k0_1 v10 L90000 = some t → B38_0 (lstA TTubeNode.E a0) (lstA TTubeNode.E a1) AV.nils (ownV TSpan.E 90000 L90000) c9 v10 k0_0 k0_1 [(90000, ownB TSpan.E 87 L90000)] R N0 := by
  unfold S38_0 B38_0
  refine cond_b (fun _ => ?_) (fun _ => ?_)
  · refine bind_b fun x45 h45 => ?_
    refine imp (callQ_says (sg48 h45)) ?_
    refine imp exT2_b ?_
    refine imp exA6_b ?_
    refine imp ex_i64_b ?_
    refine imp ex_i64_b ?_
    refine imp ex_i64_b ?_
    refine imp ex_i64_b ?_
    refine imp ex_i64_b ?_
    refine imp ex_i64_b ?_
    refine imp ex_i64_b ?_
    refine bind_b fun x46 h46 => ?_
    refine imp (callQ_says (sg48 h46)) ?_
    refine imp exT2_b ?_
    refine imp exA6_b ?_
    refine imp ex_i64_b ?_
    refine imp ex_i64_b ?_
    refine imp ex_i64_b ?_
    refine imp ex_i64_b ?_
    refine imp ex_i64_b ?_
    refine imp ex_i64_b ?_
    refine imp ex_i64_b ?_
    refine bind_b fun x52 h52 => ?_
    refine imp (callQ_says (sg49 h52)) ?_
    refine imp exB_b ?_
    refine cond_b (fun _ => ?_) (fun _ => ?_)
    · exact fun hg => hN0 _ (Option.some.inj hg).symm _ (weak_mem [(90000, 90000), (0, 0)] rfl rfl rfl (okW_cons (ent_lst (E := TTubeNode.E) _ false) (okW_cons (ent_lst (E := TTubeNode.E) _ false) (okW_cons (.inl (leV_refl _)) (okW_cons (.inl (leV_refl _)) (okW_cons (ent_own (E := TSpan.E) (id := 90000) (l' := L90000) rfl rfl) (okW_cons (.inl (leV_refl _)) (okW_cons (.inl (leV_refl _)) okW_nil))))))) (okB_cons (okB_cells (cs := [(intA k0_0), (intA k0_1)]) (ty := 24) rfl (show mget _ 0 = _ from (by first | rfl | (simp (disch := first | decide | assumption) only [mpushs_nil, mpushs_cons, mget_hd, mget_tl, mget_appW_o, mget_appW_n, mget_appW_e])))) (okB_cons (okB_own (E := TSpan.E) (ty := 87) (l' := L90000) rfl (show mget _ 90000 = _ from (by first | rfl | (simp (disch := first | decide | assumption) only [mpushs_nil, mpushs_cons, mget_hd, mget_tl, mget_appW_o, mget_appW_n, mget_appW_e])))) okB_nil')))
    · refine imp (opP_of (show _ = some ((intA (L90000.length : Int)), []) from len_own)) ?_
      refine imp ex_i64_b ?_
      refine cond_b (fun _ => ?_) (fun _ => ?_)
      · refine bind_b fun x53 h53 => ?_
        refine imp (opP_of (show _ = some ((AV.ptr 90000 ((((IntKind.wrap .i64 ((L90000.length : Int) - (1))) : Int).toNat) * 2 + 0)), []) from (idx_own (E := TSpan.E) rfl h53))) ?_
        refine imp (opP_of (show _ = some ((AV.ptr 90000 ((((IntKind.wrap .i64 ((L90000.length : Int) - (1))) : Int).toNat) * 2 + 1)), []) from rfl)) ?_
        refine imp (opP_of (show _ = some ((intA x53.To), []) from (ldS_blk (E := TSpan.E) (l := L90000) (ty := 87) (o := 1) (own_some (ty := 87) (by first | rfl | (simp (disch := first | decide | assumption) only [mpushs_nil, mpushs_cons, mget_hd, mget_tl, mget_appW_o, mget_appW_n, mget_appW_e])) (getI_some h53).2) (getI_some h53).2 rfl (by decide) rfl))) ?_
        refine imp ex_i64_b ?_
        refine cond_b (fun _ => ?_) (fun _ => ?_)
        · refine bind_b fun x54 h54 => ?_
          refine imp (opP_of (show _ = some ((AV.ptr 90000 ((((IntKind.wrap .i64 ((L90000.length : Int) - (1))) : Int).toNat) * 2 + 0)), []) from (idx_own (E := TSpan.E) rfl h54))) ?_
          refine imp (opP_of (show _ = some ((AV.ptr 90000 ((((IntKind.wrap .i64 ((L90000.length : Int) - (1))) : Int).toNat) * 2 + 1)), []) from rfl)) ?_
          refine imp (storeW_elO (E := TSpan.E) (l := L90000) (i := (((IntKind.wrap .i64 ((L90000.length : Int) - (1))) : Int).toNat)) (o := 1) (y := (⟨x54.From, (IntKind.wrap .i64 (v10 + (1)))⟩ : TSpan)) (ty := 87) (by kernel_rfl) (by kernel_rfl) rfl (by first | rfl | (simp (disch := first | decide | assumption) only [mpushs_nil, mpushs_cons, mget_hd, mget_tl, mget_appW_o, mget_appW_n, mget_appW_e])) (getI_some h54).2 rfl (by decide) rfl) ?_
          exact fun hg => hN0 _ (Option.some.inj hg).symm _ (weak_mem [(90000, 90000), (0, 0)] rfl rfl rfl (okW_cons (ent_lst (E := TTubeNode.E) _ false) (okW_cons (ent_lst (E := TTubeNode.E) _ false) (okW_cons (.inl (leV_refl _)) (okW_cons (.inl (leV_refl _)) (okW_cons (ent_own (E := TSpan.E) (id := 90000) (l' := (L90000.set (((IntKind.wrap .i64 ((L90000.length : Int) - (1))) : Int).toNat) (⟨x54.From, (IntKind.wrap .i64 (v10 + (1)))⟩ : TSpan))) (by first | rfl | omega | (simp; done) | (simp; omega)) rfl) (okW_cons (.inl (leV_refl _)) (okW_cons (.inl (leV_refl _)) okW_nil))))))) (okB_cons (okB_cells (cs := [(intA k0_0), (intA k0_1)]) (ty := 24) rfl (show mget _ 0 = _ from (by first | rfl | (simp (disch := first | decide | assumption) only [mpushs_nil, mpushs_cons, mget_hd, mget_tl, mget_appW_o, mget_appW_n, mget_appW_e])))) (okB_cons (okB_own (E := TSpan.E) (ty := 87) (l' := (L90000.set (((IntKind.wrap .i64 ((L90000.length : Int) - (1))) : Int).toNat) (⟨x54.From, (IntKind.wrap .i64 (v10 + (1)))⟩ : TSpan))) rfl (show mget _ 90000 = _ from (by first | rfl | (simp (disch := first | decide | assumption) only [mpushs_nil, mpushs_cons, mget_hd, mget_tl, mget_appW_o, mget_appW_n, mget_appW_e])))) okB_nil')))
        · refine imp (opP_of (show _ = some ((AV.agg [(intA v10), (intA (IntKind.wrap .i64 (v10 + (1))))]), []) from rfl)) ?_
          refine imp (opN_of (show _ = some ((blkV TSpan.E 100234 ([(⟨v10, (IntKind.wrap .i64 (v10 + (1)))⟩ : TSpan)] : List TSpan)), [(100234, some ⟨encs TSpan.E ([(⟨v10, (IntKind.wrap .i64 (v10 + (1)))⟩ : TSpan)] : List TSpan), 87⟩)]) from rfl)) ?_
          refine bind_b fun x56 h56 => ?_
          refine imp (opN_of (show _ = some ((ownV TSpan.E 100235 (L90000 ++ ([(⟨v10, (IntKind.wrap .i64 (v10 + (1)))⟩ : TSpan)] : List TSpan))), (appW TSpan.E 100235 90000 87 L90000 ([(⟨v10, (IntKind.wrap .i64 (v10 + (1)))⟩ : TSpan)] : List TSpan))) from (app_own (E := TSpan.E) (l' := L90000) (xs := ([(⟨v10, (IntKind.wrap .i64 (v10 + (1)))⟩ : TSpan)] : List TSpan)) rfl rfl (cellsOf_blk (E := TSpan.E) (ty := 87) rfl rfl (by first | rfl | (simp (disch := first | decide | assumption) only [mpushs_nil, mpushs_cons, mget_hd, mget_tl, mget_appW_o, mget_appW_n, mget_appW_e]))) (by first | assumption | simp) rfl (fun hne => Eq.trans (by first | rfl | (simp (disch := first | decide | assumption) only [mpushs_nil, mpushs_cons, mget_hd, mget_tl, mget_appW_o, mget_appW_n, mget_appW_e])) (ownB_ne hne)) h56))) ?_
          exact fun hg => hN0 _ (Option.some.inj hg).symm _ (weak_mem [(90000, 100235), (0, 0)] rfl rfl rfl (okW_cons (ent_lst (E := TTubeNode.E) _ false) (okW_cons (ent_lst (E := TTubeNode.E) _ false) (okW_cons (.inl (leV_refl _)) (okW_cons (.inl (leV_refl _)) (okW_cons (ent_own (E := TSpan.E) (id := 100235) (l' := (L90000 ++ ([(⟨v10, (IntKind.wrap .i64 (v10 + (1)))⟩ : TSpan)] : List TSpan))) rfl rfl) (okW_cons (.inl (leV_refl _)) (okW_cons (.inl (leV_refl _)) okW_nil))))))) (okB_cons (okB_cells (cs := [(intA k0_0), (intA k0_1)]) (ty := 24) rfl (show mget _ 0 = _ from (by first | rfl | (simp (disch := first | decide | assumption) only [mpushs_nil, mpushs_cons, mget_hd, mget_tl, mget_appW_o, mget_appW_n, mget_appW_e])))) (okB_cons (okB_own (E := TSpan.E) (ty := 87) (l' := (L90000 ++ ([(⟨v10, (IntKind.wrap .i64 (v10 + (1)))⟩ : TSpan)] : List TSpan))) rfl (show mget _ 100235 = _ from (by first | rfl | (simp (disch := first | decide | assumption) only [mpushs_nil, mpushs_cons, mget_hd, mget_tl, mget_appW_o, mget_appW_n, mget_appW_e])))) okB_nil')))
      · refine imp (opP_of (show _ = some ((AV.agg [(intA v10), (intA (IntKind.wrap .i64 (v10 + (1))))]), []) from rfl)) ?_
        refine imp (opN_of (show _ = some ((blkV TSpan.E 100226 ([(⟨v10, (IntKind.wrap .i64 (v10 + (1)))⟩ : TSpan)] : List TSpan)), [(100226, some ⟨encs TSpan.E ([(⟨v10, (IntKind.wrap .i64 (v10 + (1)))⟩ : TSpan)] : List TSpan), 87⟩)]) from rfl)) ?_
        refine bind_b fun x58 h58 => ?_
        refine imp (opN_of (show _ = some ((ownV TSpan.E 100227 (L90000 ++ ([(⟨v10, (IntKind.wrap .i64 (v10 + (1)))⟩ : TSpan)] : List TSpan))), (appW TSpan.E 100227 90000 87 L90000 ([(⟨v10, (IntKind.wrap .i64 (v10 + (1)))⟩ : TSpan)] : List TSpan))) from (app_own (E := TSpan.E) (l' := L90000) (xs := ([(⟨v10, (IntKind.wrap .i64 (v10 + (1)))⟩ : TSpan)] : List TSpan)) rfl rfl (cellsOf_blk (E := TSpan.E) (ty := 87) rfl rfl (by first | rfl | (simp (disch := first | decide | assumption) only [mpushs_nil, mpushs_cons, mget_hd, mget_tl, mget_appW_o, mget_appW_n, mget_appW_e]))) (by first | assumption | simp) rfl (fun hne => Eq.trans (by first | rfl | (simp (disch := first | decide | assumption) only [mpushs_nil, mpushs_cons, mget_hd, mget_tl, mget_appW_o, mget_appW_n, mget_appW_e])) (ownB_ne hne)) h58))) ?_
        exact fun hg => hN0 _ (Option.some.inj hg).symm _ (weak_mem [(90000, 100227), (0, 0)] rfl rfl rfl (okW_cons (ent_lst (E := TTubeNode.E) _ false) (okW_cons (ent_lst (E := TTubeNode.E) _ false) (okW_cons (.inl (leV_refl _)) (okW_cons (.inl (leV_refl _)) (okW_cons (ent_own (E := TSpan.E) (id := 100227) (l' := (L90000 ++ ([(⟨v10, (IntKind.wrap .i64 (v10 + (1)))⟩ : TSpan)] : List TSpan))) rfl rfl) (okW_cons (.inl (leV_refl _)) (okW_cons (.inl (leV_refl _)) okW_nil))))))) (okB_cons (okB_cells (cs := [(intA k0_0), (intA k0_1)]) (ty := 24) rfl (show mget _ 0 = _ from (by first | rfl | (simp (disch := first | decide | assumption) only [mpushs_nil, mpushs_cons, mget_hd, mget_tl, mget_appW_o, mget_appW_n, mget_appW_e])))) (okB_cons (okB_own (E := TSpan.E) (ty := 87) (l' := (L90000 ++ ([(⟨v10, (IntKind.wrap .i64 (v10 + (1)))⟩ : TSpan)] : List TSpan))) rfl (show mget _ 100227 = _ from (by first | rfl | (simp (disch := first | decide | assumption) only [mpushs_nil, mpushs_cons, mget_hd, mget_tl, mget_appW_o, mget_appW_n, mget_appW_e])))) okB_nil')))
  · exact fun hg => ret1 (hR _ (Option.some.inj hg).symm) (fz_own (E := TSpan.E) (ty := 87) (l' := L90000) _ rfl (by first | rfl | (simp (disch := first | decide | assumption) only [mpushs_nil, mpushs_cons, mget_hd, mget_tl, mget_appW_o, mget_appW_n, mget_appW_e])))
theorem L38_0_ok (n : Nat) (a0 : List TTubeNode) (a1 : List TTubeNode) (c9 : Int) (k0_0 : Int) (k0_1 : Int) {t : ρ38} (R : AV → Mem → Prop) (hR : ∀ r : ρ38, t = r → ∀ u m, Ans ((lstA TSpan.E r)) u m → R u m) (k : Nat) (x : Int × List TSpan) (hx : iterO (fun y : Int × List TSpan => S38_0 n a0 a1 c9 k0_0 k0_1 y.1 y.2) k x = some t) {s : St} (hw : Weak KK 73 0 s (h38_0 (lstA TTubeNode.E a0) (lstA TTubeNode.E a1) AV.nils (ownV TSpan.E 90000 x.2) c9 x.1 k0_0 k0_1 [(90000, ownB TSpan.E 87 x.2)])) : Tri Try.prog KK 73 0 (.loop c38_0) s (q38_0 R ) :=
  L38_0 R  (σ := Nat × (Int × List TSpan)) (fun z => iterO (fun y : Int × List TSpan => S38_0 n a0 a1 c9 k0_0 k0_1 y.1 y.2) z.1 z.2 = some t) (fun z => (lstA TTubeNode.E a0)) (fun z => (lstA TTubeNode.E a1)) (fun z => AV.nils) (fun z => (ownV TSpan.E 90000 z.2.2)) (fun z => c9) (fun z => z.2.1) (fun z => k0_0) (fun z => k0_1) (fun z => [(90000, ownB TSpan.E 87 z.2.2)]) (fun z => z.1) (by
    rintro ⟨k, y⟩ h
    cases k with
    | zero => exact (iterO_zero h).elim
    | succ k =>
      obtain ⟨u, h1, h2, h3⟩ := iterO_elim h
      exact B38_0_ok n a0 a1 c9 k0_0 k0_1 y.1 y.2 R  _ (fun r e => hR r (h3 _ e).symm)  (fun y' e s' hw => ⟨(k, y'), h2 _ e, Nat.lt_succ_self k, hw⟩) h1) (k, x) hx hw
theorem g38_ok (n : Nat) (a0 : List TTubeNode) (a1 : List TTubeNode) (a2 : TSep) {t : ρ38} (R : AV → Mem → Prop) (hR : ∀ r : ρ38, t = r → ∀ u m, Ans ((lstA TSpan.E r)) u m → R u m) : g38 n a0 a1 a2 = some t → F38 (lstA TTubeNode.E a0) (lstA TTubeNode.E a1) a2.Lateral a2.Vertical R := by
  unfold g38 F38
  refine bind_b fun x15 h15 => ?_
  refine imp (callQ_says (sg47 h15)) ?_
  refine imp exT2_b ?_
  refine imp ex_i64_b ?_
  refine imp ex_i64_b ?_
  exact fun hg => L38_0_ok n a0 a1 x15.2 a2.Lateral a2.Vertical R  hR n _ hg (weak_mem [(90000, 89500), (0, 0)] rfl rfl rfl (okW_cons (ent_lst (E := TTubeNode.E) _ false) (okW_cons (ent_lst (E := TTubeNode.E) _ false) (okW_cons (.inl (leV_refl _)) (okW_cons (.inl (leV_refl _)) (okW_cons ent_nils_own (okW_cons (.inl (leV_refl _)) (okW_cons (.inl (leV_refl _)) okW_nil))))))) (okB_cons (okB_cells (cs := [(intA a2.Lateral), (intA a2.Vertical)]) (ty := 24) rfl (show mget _ 0 = _ from (by first | rfl | (simp (disch := first | decide | assumption) only [mpushs_nil, mpushs_cons, mget_hd, mget_tl, mget_appW_o, mget_appW_n, mget_appW_e])))) (okB_cons okB_nil okB_nil')))
theorem sg38 {n : Nat} {a0 : List TTubeNode} {a1 : List TTubeNode} {a2 : TSep} {t : ρ38} (h : g38 n a0 a1 a2 = some t) : Says Try.prog KK.gl 38 [(lstA TTubeNode.E a0), (lstA TTubeNode.E a1), (AV.agg [(intA a2.Lateral), (intA a2.Vertical)])] ((lstA TSpan.E t)) :=
  says_of_own (by first | rfl | simp [cleans, clean, encs_clean, En.cln]) (by first | rfl | simp [cleans, clean, encs_clean, En.cln]) (F38_own (lstA TTubeNode.E a0) (lstA TTubeNode.E a1) a2.Lateral a2.Vertical _ (g38_ok n a0 a1 a2 (Ans ((lstA TSpan.E t))) (fun r e u m h => by rw [e]; exact h) h))
/- skyway/probe.Pair -/
theorem g52_ok (n : Nat) (a0 : List TTubeNode) (a1 : List TTubeNode) (a2 : TSep) {t : ρ52} (R : AV → Mem → Prop) (hR : ∀ r : ρ52, t = r → ∀ u m, Ans ((AV.tup [(lstA TSpan.E r.1), (intA r.2)])) u m → R u m) : g52 n a0 a1 a2 = some t → F52 (lstA TTubeNode.E a0) (lstA TTubeNode.E a1) a2.Lateral a2.Vertical R := by
  unfold g52 F52
  refine imp (opN_of (show _ = some ((blkV (lstE TTubeNode.E) 6 ([a0, a1] : List (List TTubeNode))), [(6, some ⟨encs (lstE TTubeNode.E) ([a0, a1] : List (List TTubeNode)), 37⟩)]) from rfl)) ?_
  refine bind_b fun x10 h10 => ?_
  refine imp (callQ_pure (pure_snapN (snL_cons (sn_agg _ (snL_cons (sn_sc _ _) (snL_cons (sn_sc _ _) snL_nil))) (snL_cons (sn_blk (E := (lstE TTubeNode.E)) (ty := 37) (l' := ([a0, a1] : List (List TTubeNode))) _ (lstE.nf TTubeNode.E) rfl (by first | rfl | (simp (disch := first | decide | assumption) only [mpushs_nil, mpushs_cons, mget_hd, mget_tl, mget_appW_o, mget_appW_n, mget_appW_e]))) snL_nil)) (sg37 h10) rfl)) ?_
  refine imp ex_i64_b ?_
  refine cond_b (fun _ => ?_) (fun _ => ?_)
  · exact fun hg => retN rfl (hR _ (Option.some.inj hg).symm) (fzL_cons (fz_nils (E := TSpan.E) _) (fzL_cons (fz_sc _ _) fzL_nil))
  · refine imp (opP_of (show _ = some ((AV.agg [(intA a2.Lateral), (intA a2.Vertical)]), []) from (ldA_ptr (b := ⟨[(intA a2.Lateral), (intA a2.Vertical)], 24⟩) (by first | rfl | (simp (disch := first | decide | assumption) only [mpushs_nil, mpushs_cons, mget_hd, mget_tl, mget_appW_o, mget_appW_n, mget_appW_e])) rfl))) ?_
    refine imp exA2_b ?_
    refine imp ex_i64_b ?_
    refine imp ex_i64_b ?_
    refine bind_b fun x59 h59 => ?_
    refine imp (callQ_says (sg38 h59)) ?_
    exact fun hg => retN rfl (hR _ (Option.some.inj hg).symm) (fzL_cons (fz_lst (E := TSpan.E) _ _ false) (fzL_cons (fz_sc _ _) fzL_nil))
theorem sg52 {n : Nat} {a0 : List TTubeNode} {a1 : List TTubeNode} {a2 : TSep} {t : ρ52} (h : g52 n a0 a1 a2 = some t) : Says Try.prog KK.gl 52 [(lstA TTubeNode.E a0), (lstA TTubeNode.E a1), (AV.agg [(intA a2.Lateral), (intA a2.Vertical)])] ((AV.tup [(lstA TSpan.E t.1), (intA t.2)])) :=
  says_of_own (by first | rfl | simp [cleans, clean, encs_clean, En.cln]) (by first | rfl | simp [cleans, clean, encs_clean, En.cln]) (F52_own (lstA TTubeNode.E a0) (lstA TTubeNode.E a1) a2.Lateral a2.Vertical _ (g52_ok n a0 a1 a2 (Ans ((AV.tup [(lstA TSpan.E t.1), (intA t.2)]))) (fun r e u m h => by rw [e]; exact h) h))
end Go.Proofs.Ytlgbioidkbeanaa
