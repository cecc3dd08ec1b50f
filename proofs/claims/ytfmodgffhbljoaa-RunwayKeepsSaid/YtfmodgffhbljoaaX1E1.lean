/- Plain functional programs out of the program's functions, with proofs that the functions compute them; printed by wip/Ext.lean.txt. -/
import Derived.Test.YtfmodgffhbljoaaX1G
import Derived.Test.YtfmodgffhbljoaaX1F1
import Derived.Test.YtfmodgffhbljoaaX1F2
set_option linter.unusedVariables false
set_option linter.unusedSimpArgs false
set_option maxRecDepth 100000
namespace Go.Proofs.Ytfmodgffhbljoaa
theorem cloneC23 {n : Nat} {look : Nat → Option ABlk} {l : List TRunwayMove} {u : Unit} (h : roomO l.length 32 = some u) : PureD Try.prog KK.gl look n 23 [lstA TRunwayMove.E l] (ownV TRunwayMove.E n l) [(n, ownB TRunwayMove.E 52 l)] :=
  made_ownC (by simp [cleans, clean, encs_clean]) (F23_own _ _ (by
    unfold F23
    exact clone_ok (E := TRunwayMove.E) rfl rfl h))
theorem cloneS23 {n : Nat} {look : Nat → Option ABlk} {args : List AV} {l : List TRunwayMove} {u : Unit} (h : roomO l.length 32 = some u) (hs : SnL look 6 args [lstA TRunwayMove.E l]) : PureD Try.prog KK.gl look n 23 args (ownV TRunwayMove.E n l) [(n, ownB TRunwayMove.E 52 l)] :=
  made_ownS (fun _ => rfl) hs (F23_own _ _ (by
    unfold F23
    exact clone_ok (E := TRunwayMove.E) rfl rfl h))
theorem cloneC43 {n : Nat} {look : Nat → Option ABlk} {l : List TRunwaySpan} {u : Unit} (h : roomO l.length 16 = some u) : PureD Try.prog KK.gl look n 43 [lstA TRunwaySpan.E l] (ownV TRunwaySpan.E n l) [(n, ownB TRunwaySpan.E 45 l)] :=
  made_ownC (by simp [cleans, clean, encs_clean]) (F43_own _ _ (by
    unfold F43
    exact clone_ok (E := TRunwaySpan.E) rfl rfl h))
theorem cloneS43 {n : Nat} {look : Nat → Option ABlk} {args : List AV} {l : List TRunwaySpan} {u : Unit} (h : roomO l.length 16 = some u) (hs : SnL look 6 args [lstA TRunwaySpan.E l]) : PureD Try.prog KK.gl look n 43 args (ownV TRunwaySpan.E n l) [(n, ownB TRunwaySpan.E 45 l)] :=
  made_ownS (fun _ => rfl) hs (F43_own _ _ (by
    unfold F43
    exact clone_ok (E := TRunwaySpan.E) rfl rfl h))
theorem del25 {n id : Nat} {look : Nat → Option ABlk} {l0 l y : List TRunwayMove} {i j : Int} (hl : l0.length = l.length) (hb : look id = ownB TRunwayMove.E 52 l) (h : delO 32 l i j = some y) : PureD Try.prog KK.gl look n 25 [ownV TRunwayMove.E id l0, intA i, intA j] (blkW TRunwayMove.E n y) [(n, some ⟨encs TRunwayMove.E y, 52⟩), (id, none)] :=
  del_mk (fun _ => rfl) hl hb h fun a b r1 r2 h1 h2 => F25_1_call _ _ _ _ _ (by
    unfold F25_1
    exact delete_ok (by kernel_rfl) (by kernel_rfl) rfl rfl (by kernel_rfl) rfl r1 r2 h1 h2 _ (fun _ _ h => h) _ rfl _ rfl _ _ rfl rfl)
theorem delv25 {n id : Nat} {look : Nat → Option ABlk} {l0 l y : List TRunwayMove} {i j : Int} (hl : l0.length = l.length) (hb : look id = ownB TRunwayMove.E 52 l) (hni : n ≠ id) (h : delO 32 l i j = some y) : PureD Try.prog KK.gl look n 25 [ownV TRunwayMove.E id l0, intA i, intA j] (ownW TRunwayMove.E n y) [(n, ownB TRunwayMove.E 52 y), (id, none)] := ow_of_bw hni (del25 hl hb h)
theorem delw25 {n id : Nat} {look : Nat → Option ABlk} {l0 l y : List TRunwayMove} {i j : Int} (hl : l0.length = l.length) (hb : look id = ownB TRunwayMove.E 52 l) (hni : n ≠ id) (h : delO 32 l i j = some y) : PureD Try.prog KK.gl look n 25 [ownW TRunwayMove.E id l0, intA i, intA j] (ownW TRunwayMove.E n y) [(n, ownB TRunwayMove.E 52 y), (id, none)] := by
  have hne : l0 ≠ [] := by
    rintro rfl
    unfold delO at h
    split at h
    · rename_i hc
      simp only [List.length_nil] at hl
      omega
    · cases h
  rw [ownW_ne hne]
  exact ow_of_bw hni (del25 hl hb h)
noncomputable def J49 (a1 : Int) (a2 : AV) (m : Mem) (R : AV → Mem → Prop) (z2 z4 : Int) (v17 : AV) : Prop :=

opP (opA Try.prog (.slice 37 (.tmp 0) (some (.tmp 1)) none none) 37 [v17, (AV.sc (.int .i64 z4))] (mget m) 102) fun v28 =>
opN (opA Try.prog (.call ⟨.builtin .copy, #[.tmp 0, .tmp 1], #[37, 37]⟩) 3 [v28, a2] (mget m) 104) m fun v29 m29 =>
ex_i64 v29 fun z30 =>
opP (opA Try.prog (.slice 37 (.tmp 0) (some (.tmp 1)) none none) 37 [v17, (AV.sc (.int .i64 a1))] (mget m29) 107) fun v31 =>
callW Try.prog KK.gl m29 109 61 [v31, (AV.sc (.int .i64 z2))] fun v32 m32 =>
exT0 v32 <|
retL R m32 [some v17]
noncomputable def J49n (a0 : AV) (a1 : Int) (a2 : AV) (m : Mem) (R : AV → Mem → Prop) (z2 z4 : Int) : Prop :=

opP (opA Try.prog (.call ⟨.builtin .cap, #[.tmp 0], #[37]⟩) 3 [a0] (mget m) 20) fun v6 =>
ex_i64 v6 fun z7 =>
bif (decide ((IntKind.wrap .i64 (z4 + z2)) > z7)) then (
opP (opA Try.prog (.slice 37 (.tmp 0) none (some (.tmp 1)) none) 37 [a0, (AV.sc (.int .i64 a1))] (mget m) 24) fun v8 =>
opN (opA Try.prog (.call ⟨.builtin .append, #[.tmp 0, .tmp 1], #[37, 3]⟩) 37 [v8, (AV.sc (.int .i64 (IntKind.wrap .i64 ((IntKind.wrap .i64 (z4 + z2)) - a1))))] (mget m) 30) m fun v9 m9 =>
opP (opA Try.prog (.slice 37 (.tmp 0) (some (.tmp 1)) none none) 37 [v9, (AV.sc (.int .i64 a1))] (mget m9) 34) fun v10 =>
opN (opA Try.prog (.call ⟨.builtin .copy, #[.tmp 0, .tmp 1], #[37, 37]⟩) 3 [v10, a2] (mget m9) 36) m9 fun v11 m11 =>
ex_i64 v11 fun z12 =>
opM (opA Try.prog (.slice 37 (.tmp 0) (some (.tmp 1)) none none) 37 [v9, (AV.sc (.int .i64 (IntKind.wrap .i64 (a1 + z2))))] (look' m11 (topId v9 ++ (topId (AV.sc (.int .i64 (IntKind.wrap .i64 (a1 + z2)))) ++ ([])))) 41) fun v13 d13 =>
opM (opA Try.prog (.slice 37 (.tmp 0) (some (.tmp 1)) none none) 37 [a0, (AV.sc (.int .i64 a1))] (look' (mpushs m11 d13) (topId a0 ++ (topId (AV.sc (.int .i64 a1)) ++ ([])))) 44) fun v14 d14 =>
opM (opA Try.prog (.call ⟨.builtin .copy, #[.tmp 0, .tmp 1], #[37, 37]⟩) 3 [v13, v14] (look' (mpushs (mpushs m11 d13) d14) (topId v13 ++ (topId v14 ++ ([])))) 45) fun v15 d15 =>
ex_i64 v15 fun z16 =>
chk (confOk [0, 0, 0, 6, 15, 0, 0, 96, 255] [⟨[], []⟩, ⟨[], []⟩, ⟨[], []⟩, ⟨[], []⟩, ⟨d13, (topId v9 ++ (topId (AV.sc (.int .i64 (IntKind.wrap .i64 (a1 + z2)))) ++ ([])))⟩, ⟨[], []⟩, ⟨[], []⟩, ⟨d14, (topId a0 ++ (topId (AV.sc (.int .i64 a1)) ++ ([])))⟩, ⟨d15, (topId v13 ++ (topId v14 ++ ([])))⟩]) (retL R (mpushs (mpushs (mpushs m11 d13) d14) d15) [some v9])) else (
opP (opA Try.prog (.slice 37 (.tmp 0) none (some (.tmp 1)) none) 37 [a0, (AV.sc (.int .i64 (IntKind.wrap .i64 (z4 + z2))))] (mget m) 26) fun v17 =>
opP (opA Try.prog (.slice 37 (.tmp 0) (some (.tmp 1)) none none) 37 [v17, (AV.sc (.int .i64 (IntKind.wrap .i64 (a1 + z2))))] (mget m) 33) fun v18 =>
callQ Try.prog KK.gl m 60 [a2, v18] fun v19 =>
exB v19 fun b20 =>
bif (!b20) then (
opM (opA Try.prog (.slice 37 (.tmp 0) (some (.tmp 1)) none none) 37 [v17, (AV.sc (.int .i64 (IntKind.wrap .i64 (a1 + z2))))] (look' m (topId v17 ++ (topId (AV.sc (.int .i64 (IntKind.wrap .i64 (a1 + z2)))) ++ ([])))) 103) fun v21 d21 =>
opM (opA Try.prog (.slice 37 (.tmp 0) (some (.tmp 1)) none none) 37 [v17, (AV.sc (.int .i64 a1))] (look' (mpushs m d21) (topId v17 ++ (topId (AV.sc (.int .i64 a1)) ++ ([])))) 106) fun v22 d22 =>
opM (opA Try.prog (.call ⟨.builtin .copy, #[.tmp 0, .tmp 1], #[37, 37]⟩) 3 [v21, v22] (look' (mpushs (mpushs m d21) d22) (topId v21 ++ (topId v22 ++ ([])))) 107) fun v23 d23 =>
ex_i64 v23 fun z24 =>
chk (confOk [0, 0, 0, 6, 15, 0, 0, 96, 255] [⟨[], []⟩, ⟨[], []⟩, ⟨[], []⟩, ⟨[], []⟩, ⟨d21, (topId v17 ++ (topId (AV.sc (.int .i64 (IntKind.wrap .i64 (a1 + z2)))) ++ ([])))⟩, ⟨[], []⟩, ⟨[], []⟩, ⟨d22, (topId v17 ++ (topId (AV.sc (.int .i64 a1)) ++ ([])))⟩, ⟨d23, (topId v21 ++ (topId v22 ++ ([])))⟩]) (opP (opA Try.prog (.slice 37 (.tmp 0) (some (.tmp 1)) none none) 37 [v17, (AV.sc (.int .i64 a1))] (mget (mpushs (mpushs (mpushs m d21) d22) d23)) 110) fun v25 =>
opN (opA Try.prog (.call ⟨.builtin .copy, #[.tmp 0, .tmp 1], #[37, 37]⟩) 3 [v25, a2] (mget (mpushs (mpushs (mpushs m d21) d22) d23)) 112) (mpushs (mpushs (mpushs m d21) d22) d23) fun v26 m26 =>
ex_i64 v26 fun z27 =>
retL R m26 [some v17])) else (
opP (opA Try.prog (.slice 37 (.tmp 0) (some (.tmp 1)) none none) 37 [v17, (AV.sc (.int .i64 z4))] (mget m) 101) fun v28 =>
opN (opA Try.prog (.call ⟨.builtin .copy, #[.tmp 0, .tmp 1], #[37, 37]⟩) 3 [v28, a2] (mget m) 103) m fun v29 m29 =>
ex_i64 v29 fun z30 =>
opP (opA Try.prog (.slice 37 (.tmp 0) (some (.tmp 1)) none none) 37 [v17, (AV.sc (.int .i64 a1))] (mget m29) 106) fun v31 =>
callW Try.prog KK.gl m29 108 61 [v31, (AV.sc (.int .i64 z2))] fun v32 m32 =>
exT0 v32 <|
retL R m32 [some v17]))
theorem J49_eq (a0 : AV) (a1 : Int) (a2 : AV) (m : Mem) (R : AV → Mem → Prop) : insTxt Try.prog KK.gl 37 3 52 4 32 60 [(AV.sc (.int .i64 (0))), (AV.sc (.int .i64 (0))), (AV.sc (.bool false)), (AV.sc (.int .i64 (0)))] (J49 a1 a2 m R) a0 a1 a2 m R = F49n2 a0 a1 a2 m R := by kernel_rfl
theorem J49n_eq (a0 : AV) (a1 : Int) (a2 : AV) (m : Mem) (R : AV → Mem → Prop) : insTxt1 Try.prog 37 52 4 32 [(AV.sc (.int .i64 (0))), (AV.sc (.int .i64 (0))), (AV.sc (.bool false)), (AV.sc (.int .i64 (0)))] (J49n a0 a1 a2 m R) a0 a1 a2 m R = F49n1 a0 a1 a2 m R := by kernel_rfl
theorem over49 : OverF Try.prog 60 37 4 := ⟨⟨Try.f60, Try.func60, by kernel_rfl, by kernel_rfl, by kernel_rfl, by kernel_rfl⟩, ⟨52, _, by kernel_rfl, run_size (n := (tsize Try.prog 52).getD 0) (by kernel_rfl)⟩⟩
theorem insa49 {l xs : List TRunwayMove} {C k : Nat} (hC : l.length ≤ C) (hCm : C ≤ maxLen) (hne : l ≠ []) (hx : xs ≠ []) (hk : k ≤ l.length) (r1 : (l.length + xs.length) * 32 ≤ 140737488355328) (r2 : l.length + xs.length ≤ 4611686018427387904) (a0 : AV) (ha0 : a0 = .sl 0 0 TRunwayMove.E.size l.length C true) (a1 : Int) (ha1 : a1 = (k : Int)) (a2 : AV) (ha2 : a2 = .sl 1 0 TRunwayMove.E.size xs.length xs.length false) (m : Mem) (hm : m = [(0, some ⟨encs TRunwayMove.E l ++ List.replicate ((C - l.length) * TRunwayMove.E.size) .und, 52⟩), (1, some ⟨encs TRunwayMove.E xs, 52⟩)]) : F49n2 a0 a1 a2 m (MutO TRunwayMove.E 52 (l.take k ++ xs ++ l.drop k)) := by
  rw [← J49_eq]
  exact insert_ok (f := 0) (nt := 0) (kk := .i64) (by kernel_rfl) (by kernel_rfl) (by kernel_rfl) (by kernel_rfl) rfl rfl (by kernel_rfl) over49 hC hCm hne hx hk r1 r2 _ (fun _ _ h => h) m hm a0 ha0 a1 ha1 a2 ha2 _
theorem insb49 {xs : List TRunwayMove} (hx : xs ≠ []) (r1 : (0 + xs.length) * 32 ≤ 140737488355328) (r2 : 0 + xs.length ≤ 4611686018427387904) (a0 : AV) (ha0 : a0 = .lst 0 [] true) (a1 : Int) (ha1 : a1 = 0) (a2 : AV) (ha2 : a2 = .sl 0 0 TRunwayMove.E.size xs.length xs.length false) (m : Mem) (hm : m = [(0, some ⟨encs TRunwayMove.E xs, 52⟩)]) : F49n1 a0 a1 a2 m (MutO TRunwayMove.E 52 xs) := by
  rw [← J49n_eq]
  exact insert_nil_ok (by kernel_rfl) (by kernel_rfl) rfl rfl hx r1 r2 _ (fun _ _ h => h) m hm a0 ha0 a1 ha1 a2 ha2 _
theorem ins49 {n id wid : Nat} {look : Nat → Option ABlk} {l0 l xs0 xs y : List TRunwayMove} {i : Int} (hl : l0.length = l.length) (hb : look id = ownB TRunwayMove.E 52 l) (hl2 : xs0.length = xs.length) (hb2 : look wid = some ⟨encs TRunwayMove.E xs, 52⟩) (hid : id ≠ wid) (h : insO 32 l i xs = some y) : PureD Try.prog KK.gl look n 49 [ownV TRunwayMove.E id l0, intA i, blkV TRunwayMove.E wid xs0] (ownV TRunwayMove.E n y) [(n, ownB TRunwayMove.E 52 y), (wid, none), (id, none)] :=
  ins_mk (fun _ => rfl) hl hb hl2 hb2 hid h (fun C k hC hCm hne hx hk r1 r2 => F49n2_call _ _ _ _ _ (insa49 hC hCm hne hx hk r1 r2 _ rfl _ rfl _ rfl _ rfl)) (fun hx r1 r2 => F49n1_call _ _ _ _ _ (insb49 hx r1 r2 _ rfl _ rfl _ rfl _ rfl))
/- skyway/wake.Standard -/
theorem g35_ok (n : Nat) {t : ρ35} (R : AV → Mem → Prop) (hR : ∀ r : ρ35, t = r → ∀ u m, Ans ((AV.agg (TWakeTable.E.enc r))) u m → R u m) : g35 n  = some t → F35  R := by
  unfold g35 F35
  refine imp (opP_of (show _ = some ((AV.agg [(intA (60)), (intA (60)), (intA (60)), (intA (60))]), []) from (by kernel_rfl))) ?_
  refine imp (opP_of (show _ = some ((AV.agg [(intA (120)), (intA (60)), (intA (60)), (intA (60))]), []) from (by kernel_rfl))) ?_
  refine imp (opP_of (show _ = some ((AV.agg [(intA (180)), (intA (120)), (intA (90)), (intA (60))]), []) from (by kernel_rfl))) ?_
  refine imp (opP_of (show _ = some ((AV.agg [(intA (240)), (intA (180)), (intA (120)), (intA (120))]), []) from (by kernel_rfl))) ?_
  refine imp (opP_of (show _ = some ((AV.agg [(intA (60)), (intA (60)), (intA (60)), (intA (60)), (intA (120)), (intA (60)), (intA (60)), (intA (60)), (intA (180)), (intA (120)), (intA (90)), (intA (60)), (intA (240)), (intA (180)), (intA (120)), (intA (120))]), []) from (by kernel_rfl))) ?_
  refine imp (storeW_cells (sz := 16) (by kernel_rfl) (by kernel_rfl) rfl rfl (cs := [(intA (0)), (intA (0)), (intA (0)), (intA (0)), (intA (0)), (intA (0)), (intA (0)), (intA (0)), (intA (0)), (intA (0)), (intA (0)), (intA (0)), (intA (0)), (intA (0)), (intA (0)), (intA (0))]) (cs' := [(intA (60)), (intA (60)), (intA (60)), (intA (60)), (intA (120)), (intA (60)), (intA (60)), (intA (60)), (intA (180)), (intA (120)), (intA (90)), (intA (60)), (intA (240)), (intA (180)), (intA (120)), (intA (120))]) (ty := 24) (by first | rfl | (simp (disch := first | decide | assumption) only [mpushs_nil, mpushs_cons, mget_hd, mget_tl, mget_appW_o, mget_appW_n, mget_appW_e])) rfl rfl) ?_
  exact fun hg => ret1 (hR _ (Option.some.inj hg).symm) (fz_el (E := TWakeTable.E) _ (⟨(60), (60), (60), (60), (120), (60), (60), (60), (180), (120), (90), (60), (240), (180), (120), (120)⟩ : TWakeTable))
theorem sg35 {n : Nat} {t : ρ35} (h : g35 n  = some t) : Says Try.prog KK.gl 35 [] ((AV.agg (TWakeTable.E.enc t))) :=
  says_of_own (by first | rfl | simp [cleans, clean, encs_clean, En.cln]) (by first | rfl | simp [cleans, clean, encs_clean, En.cln]) (F35_own  _ (g35_ok n  (Ans ((AV.agg (TWakeTable.E.enc t)))) (fun r e u m h => by rw [e]; exact h) h))
/- skyway/runway.wrongTime -/
theorem g42_ok (n : Nat) (a0 : Int) {t : ρ42} (R : AV → Mem → Prop) (hR : ∀ r : ρ42, t = r → ∀ u m, Ans ((boolA r)) u m → R u m) : g42 n a0 = some t → F42 a0 R := by
  unfold g42 F42
  refine cond_b (fun _ => ?_) (fun _ => ?_)
  · exact fun hg => ret1 (hR _ (Option.some.inj hg).symm) (fz_sc _ _)
  · exact fun hg => ret1 (hR _ (Option.some.inj hg).symm) (fz_sc _ _)
theorem sg42 {n : Nat} {a0 : Int} {t : ρ42} (h : g42 n a0 = some t) : Says Try.prog KK.gl 42 [(intA a0)] ((boolA t)) :=
  says_of_own (by first | rfl | simp [cleans, clean, encs_clean, En.cln]) (by first | rfl | simp [cleans, clean, encs_clean, En.cln]) (F42_own a0 _ (g42_ok n a0 (Ans ((boolA t))) (fun r e u m h => by rw [e]; exact h) h))
/- skyway/wake.Class -/
theorem g37_ok (n : Nat) (a0 : Int) {t : ρ37} (R : AV → Mem → Prop) (hR : ∀ r : ρ37, t = r → ∀ u m, Ans ((intA r)) u m → R u m) : g37 n a0 = some t → F37 a0 R := by
  unfold g37 F37
  refine cond_b (fun _ => ?_) (fun _ => ?_)
  · exact fun hg => ret1 (hR _ (Option.some.inj hg).symm) (fz_sc _ _)
  · refine cond_b (fun _ => ?_) (fun _ => ?_)
    · exact fun hg => ret1 (hR _ (Option.some.inj hg).symm) (fz_sc _ _)
    · exact fun hg => ret1 (hR _ (Option.some.inj hg).symm) (fz_sc _ _)
theorem sg37 {n : Nat} {a0 : Int} {t : ρ37} (h : g37 n a0 = some t) : Says Try.prog KK.gl 37 [(intA a0)] ((intA t)) :=
  says_of_own (by first | rfl | simp [cleans, clean, encs_clean, En.cln]) (by first | rfl | simp [cleans, clean, encs_clean, En.cln]) (F37_own a0 _ (g37_ok n a0 (Ans ((intA t))) (fun r e u m h => by rw [e]; exact h) h))
/- skyway/runway.Check -/
theorem B40_0_ok (n : Nat) (a0 : List TRunwayMove) (c2 : Int) (c10 : Int) (v11 : Int) {t : (Int) ⊕ ρ40} (R : AV → Mem → Prop) (N0 : St → Prop) (hR : ∀ r : ρ40, t = (.inr r) → ∀ u m, Ans ((intA r)) u m → R u m) (hN0 : ∀ y : Int, t = (.inl y) → ∀ s' : St, Weak KK 49 0 s' (h40_0 (lstA TRunwayMove.E a0) c2 (lstA TRunwayMove.E a0) c10 y []) → N0 s') : S40_0 n a0 c2 c10 v11 = some t → B40_0 (lstA TRunwayMove.E a0) c2 (lstA TRunwayMove.E a0) c10 v11 [] R N0 := by
  unfold S40_0 B40_0
  refine cond_b (fun _ => ?_) (fun _ => ?_)
  · refine bind_b fun x1 h1 => ?_
    refine imp (opP_of (show _ = some ((AV.ept [(intA x1.Time), (intA x1.Wake), (boolA x1.Departs), (intA x1.End)] 0), []) from (idx_lst (E := TRunwayMove.E) rfl h1))) ?_
    refine imp (opP_of (show _ = some ((AV.agg [(intA x1.Time), (intA x1.Wake), (boolA x1.Departs), (intA x1.End)]), []) from rfl)) ?_
    refine imp exA4_b ?_
    refine imp ex_i64_b ?_
    refine imp ex_i64_b ?_
    refine imp exB_b ?_
    refine imp ex_i64_b ?_
    refine bind_b fun x2 h2 => ?_
    refine imp (callQ_says (sg42 h2)) ?_
    refine imp exB_b ?_
    refine cond_b (fun _ => ?_) (fun _ => ?_)
    · exact fun hg => ret1 (hR _ (Option.some.inj hg).symm) (fz_sc _ _)
    · refine cond_b (fun _ => ?_) (fun _ => ?_)
      · refine bind_b fun x3 h3 => ?_
        refine imp (opP_of (show _ = some ((AV.ept [(intA x3.Time), (intA x3.Wake), (boolA x3.Departs), (intA x3.End)] 0), []) from (idx_lst (E := TRunwayMove.E) rfl h3))) ?_
        refine imp (opP_of (show _ = some ((AV.ept [(intA x3.Time), (intA x3.Wake), (boolA x3.Departs), (intA x3.End)] 0), []) from rfl)) ?_
        refine imp (opP_of (show _ = some ((intA x3.Time), []) from rfl)) ?_
        refine imp ex_i64_b ?_
        refine cond_b (fun _ => ?_) (fun _ => ?_)
        · exact fun hg => ret1 (hR _ (Option.some.inj hg).symm) (fz_sc _ _)
        · refine bind_b fun x4 h4 => ?_
          refine imp (callQ_says (sg37 h4)) ?_
          refine imp ex_i64_b ?_
          refine cond_b (fun _ => ?_) (fun _ => ?_)
          · exact fun hg => ret1 (hR _ (Option.some.inj hg).symm) (fz_sc _ _)
          · refine cond_b (fun _ => ?_) (fun _ => ?_)
            · refine cond_b (fun _ => ?_) (fun _ => ?_)
              · exact fun hg => ret1 (hR _ (Option.some.inj hg).symm) (fz_sc _ _)
              · exact fun hg => hN0 _ (Option.some.inj hg).symm _ (weak_mem [] rfl rfl rfl (okW_cons (ent_lst (E := TRunwayMove.E) _ false) (okW_cons (.inl (leV_refl _)) (okW_cons (ent_lst (E := TRunwayMove.E) _ false) (okW_cons (.inl (leV_refl _)) (okW_cons (.inl (leV_refl _)) okW_nil))))) okB_nil')
            · exact fun hg => hN0 _ (Option.some.inj hg).symm _ (weak_mem [] rfl rfl rfl (okW_cons (ent_lst (E := TRunwayMove.E) _ false) (okW_cons (.inl (leV_refl _)) (okW_cons (ent_lst (E := TRunwayMove.E) _ false) (okW_cons (.inl (leV_refl _)) (okW_cons (.inl (leV_refl _)) okW_nil))))) okB_nil')
      · refine bind_b fun x5 h5 => ?_
        refine imp (callQ_says (sg37 h5)) ?_
        refine imp ex_i64_b ?_
        refine cond_b (fun _ => ?_) (fun _ => ?_)
        · exact fun hg => ret1 (hR _ (Option.some.inj hg).symm) (fz_sc _ _)
        · refine cond_b (fun _ => ?_) (fun _ => ?_)
          · refine cond_b (fun _ => ?_) (fun _ => ?_)
            · exact fun hg => ret1 (hR _ (Option.some.inj hg).symm) (fz_sc _ _)
            · exact fun hg => hN0 _ (Option.some.inj hg).symm _ (weak_mem [] rfl rfl rfl (okW_cons (ent_lst (E := TRunwayMove.E) _ false) (okW_cons (.inl (leV_refl _)) (okW_cons (ent_lst (E := TRunwayMove.E) _ false) (okW_cons (.inl (leV_refl _)) (okW_cons (.inl (leV_refl _)) okW_nil))))) okB_nil')
          · exact fun hg => hN0 _ (Option.some.inj hg).symm _ (weak_mem [] rfl rfl rfl (okW_cons (ent_lst (E := TRunwayMove.E) _ false) (okW_cons (.inl (leV_refl _)) (okW_cons (ent_lst (E := TRunwayMove.E) _ false) (okW_cons (.inl (leV_refl _)) (okW_cons (.inl (leV_refl _)) okW_nil))))) okB_nil')
  · exact fun hg => ret1 (hR _ (Option.some.inj hg).symm) (fz_sc _ _)
theorem L40_0_ok (n : Nat) (a0 : List TRunwayMove) (c2 : Int) (c10 : Int) {t : ρ40} (R : AV → Mem → Prop) (hR : ∀ r : ρ40, t = r → ∀ u m, Ans ((intA r)) u m → R u m) (k : Nat) (x : Int) (hx : iterO (fun y : Int => S40_0 n a0 c2 c10 y) k x = some t) {s : St} (hw : Weak KK 49 0 s (h40_0 (lstA TRunwayMove.E a0) c2 (lstA TRunwayMove.E a0) c10 x [])) : Tri Try.prog KK 49 0 (.loop c40_0) s (q40_0 R ) :=
  L40_0 R  (σ := Nat × (Int)) (fun z => iterO (fun y : Int => S40_0 n a0 c2 c10 y) z.1 z.2 = some t) (fun z => (lstA TRunwayMove.E a0)) (fun z => c2) (fun z => (lstA TRunwayMove.E a0)) (fun z => c10) (fun z => z.2) (fun z => []) (fun z => z.1) (by
    rintro ⟨k, y⟩ h
    cases k with
    | zero => exact (iterO_zero h).elim
    | succ k =>
      obtain ⟨u, h1, h2, h3⟩ := iterO_elim h
      exact B40_0_ok n a0 c2 c10 y R  _ (fun r e => hR r (h3 _ e).symm)  (fun y' e s' hw => ⟨(k, y'), h2 _ e, Nat.lt_succ_self k, hw⟩) h1) (k, x) hx hw
theorem g40_ok (n : Nat) (a0 : List TRunwayMove) {t : ρ40} (R : AV → Mem → Prop) (hR : ∀ r : ρ40, t = r → ∀ u m, Ans ((intA r)) u m → R u m) : g40 n a0 = some t → F40 (lstA TRunwayMove.E a0) R := by
  unfold g40 F40
  refine imp (opP_of (show _ = some ((intA (a0.length : Int)), []) from rfl)) ?_
  refine imp ex_i64_b ?_
  refine cond_b (fun _ => ?_) (fun _ => ?_)
  · exact fun hg => ret1 (hR _ (Option.some.inj hg).symm) (fz_sc _ _)
  · refine imp (opP_of (show _ = some ((intA (a0.length : Int)), []) from rfl)) ?_
    refine imp ex_i64_b ?_
    exact fun hg => L40_0_ok n a0 (0) (a0.length : Int) R  hR n _ hg (weak_mem [] rfl rfl rfl (okW_cons (ent_lst (E := TRunwayMove.E) _ false) (okW_cons (.inl (leV_refl _)) (okW_cons (ent_lst (E := TRunwayMove.E) _ false) (okW_cons (.inl (leV_refl _)) (okW_cons (.inl (leV_refl _)) okW_nil))))) okB_nil')
theorem sg40 {n : Nat} {a0 : List TRunwayMove} {t : ρ40} (h : g40 n a0 = some t) : Says Try.prog KK.gl 40 [(lstA TRunwayMove.E a0)] ((intA t)) :=
  says_of_own (by first | rfl | simp [cleans, clean, encs_clean, En.cln]) (by first | rfl | simp [cleans, clean, encs_clean, En.cln]) (F40_own (lstA TRunwayMove.E a0) _ (g40_ok n a0 (Ans ((intA t))) (fun r e u m h => by rw [e]; exact h) h))
/- skyway/runway.Spans -/
theorem B41_0_ok (n : Nat) (a0 : List TRunwaySpan) (c2 : Int) (c14 : Int) (v15 : Int) {t : (Int) ⊕ ρ41} (R : AV → Mem → Prop) (N0 : St → Prop) (hR : ∀ r : ρ41, t = (.inr r) → ∀ u m, Ans ((intA r)) u m → R u m) (hN0 : ∀ y : Int, t = (.inl y) → ∀ s' : St, Weak KK 64 0 s' (h41_0 (lstA TRunwaySpan.E a0) c2 (lstA TRunwaySpan.E a0) c14 y []) → N0 s') : S41_0 n a0 c2 c14 v15 = some t → B41_0 (lstA TRunwaySpan.E a0) c2 (lstA TRunwaySpan.E a0) c14 v15 [] R N0 := by
  unfold S41_0 B41_0
  refine cond_b (fun _ => ?_) (fun _ => ?_)
  · refine bind_b fun x7 h7 => ?_
    refine imp (opP_of (show _ = some ((AV.ept [(intA x7.From), (intA x7.End)] 0), []) from (idx_lst (E := TRunwaySpan.E) rfl h7))) ?_
    refine imp (opP_of (show _ = some ((AV.agg [(intA x7.From), (intA x7.End)]), []) from rfl)) ?_
    refine imp exA2_b ?_
    refine imp ex_i64_b ?_
    refine imp ex_i64_b ?_
    refine cond_b (fun _ => ?_) (fun _ => ?_)
    · refine cond_b (fun _ => ?_) (fun _ => ?_)
      · exact fun hg => ret1 (hR _ (Option.some.inj hg).symm) (fz_sc _ _)
      · refine bind_b fun x8 h8 => ?_
        refine imp (callQ_says (sg42 h8)) ?_
        refine imp exB_b ?_
        refine cond_b (fun _ => ?_) (fun _ => ?_)
        · exact fun hg => ret1 (hR _ (Option.some.inj hg).symm) (fz_sc _ _)
        · refine cond_b (fun _ => ?_) (fun _ => ?_)
          · refine bind_b fun x9 h9 => ?_
            refine imp (opP_of (show _ = some ((AV.ept [(intA x9.From), (intA x9.End)] 0), []) from (idx_lst (E := TRunwaySpan.E) rfl h9))) ?_
            refine imp (opP_of (show _ = some ((AV.ept [(intA x9.From), (intA x9.End)] 0), []) from rfl)) ?_
            refine imp (opP_of (show _ = some ((intA x9.From), []) from rfl)) ?_
            refine imp ex_i64_b ?_
            refine cond_b (fun _ => ?_) (fun _ => ?_)
            · exact fun hg => ret1 (hR _ (Option.some.inj hg).symm) (fz_sc _ _)
            · refine cond_b (fun _ => ?_) (fun _ => ?_)
              · refine bind_b fun x10 h10 => ?_
                refine imp (opP_of (show _ = some ((AV.ept [(intA x10.From), (intA x10.End)] 0), []) from (idx_lst (E := TRunwaySpan.E) rfl h10))) ?_
                refine imp (opP_of (show _ = some ((AV.ept [(intA x10.From), (intA x10.End)] 1), []) from rfl)) ?_
                refine imp (opP_of (show _ = some ((intA x10.End), []) from rfl)) ?_
                refine imp ex_i64_b ?_
                refine cond_b (fun _ => ?_) (fun _ => ?_)
                · exact fun hg => ret1 (hR _ (Option.some.inj hg).symm) (fz_sc _ _)
                · exact fun hg => hN0 _ (Option.some.inj hg).symm _ (weak_mem [] rfl rfl rfl (okW_cons (ent_lst (E := TRunwaySpan.E) _ false) (okW_cons (.inl (leV_refl _)) (okW_cons (ent_lst (E := TRunwaySpan.E) _ false) (okW_cons (.inl (leV_refl _)) (okW_cons (.inl (leV_refl _)) okW_nil))))) okB_nil')
              · exact fun hg => hN0 _ (Option.some.inj hg).symm _ (weak_mem [] rfl rfl rfl (okW_cons (ent_lst (E := TRunwaySpan.E) _ false) (okW_cons (.inl (leV_refl _)) (okW_cons (ent_lst (E := TRunwaySpan.E) _ false) (okW_cons (.inl (leV_refl _)) (okW_cons (.inl (leV_refl _)) okW_nil))))) okB_nil')
          · refine cond_b (fun _ => ?_) (fun _ => ?_)
            · refine bind_b fun x11 h11 => ?_
              refine imp (opP_of (show _ = some ((AV.ept [(intA x11.From), (intA x11.End)] 0), []) from (idx_lst (E := TRunwaySpan.E) rfl h11))) ?_
              refine imp (opP_of (show _ = some ((AV.ept [(intA x11.From), (intA x11.End)] 1), []) from rfl)) ?_
              refine imp (opP_of (show _ = some ((intA x11.End), []) from rfl)) ?_
              refine imp ex_i64_b ?_
              refine cond_b (fun _ => ?_) (fun _ => ?_)
              · exact fun hg => ret1 (hR _ (Option.some.inj hg).symm) (fz_sc _ _)
              · exact fun hg => hN0 _ (Option.some.inj hg).symm _ (weak_mem [] rfl rfl rfl (okW_cons (ent_lst (E := TRunwaySpan.E) _ false) (okW_cons (.inl (leV_refl _)) (okW_cons (ent_lst (E := TRunwaySpan.E) _ false) (okW_cons (.inl (leV_refl _)) (okW_cons (.inl (leV_refl _)) okW_nil))))) okB_nil')
            · exact fun hg => hN0 _ (Option.some.inj hg).symm _ (weak_mem [] rfl rfl rfl (okW_cons (ent_lst (E := TRunwaySpan.E) _ false) (okW_cons (.inl (leV_refl _)) (okW_cons (ent_lst (E := TRunwaySpan.E) _ false) (okW_cons (.inl (leV_refl _)) (okW_cons (.inl (leV_refl _)) okW_nil))))) okB_nil')
    · refine bind_b fun x12 h12 => ?_
      refine imp (callQ_says (sg42 h12)) ?_
      refine imp exB_b ?_
      refine cond_b (fun _ => ?_) (fun _ => ?_)
      · exact fun hg => ret1 (hR _ (Option.some.inj hg).symm) (fz_sc _ _)
      · refine cond_b (fun _ => ?_) (fun _ => ?_)
        · refine bind_b fun x13 h13 => ?_
          refine imp (opP_of (show _ = some ((AV.ept [(intA x13.From), (intA x13.End)] 0), []) from (idx_lst (E := TRunwaySpan.E) rfl h13))) ?_
          refine imp (opP_of (show _ = some ((AV.ept [(intA x13.From), (intA x13.End)] 0), []) from rfl)) ?_
          refine imp (opP_of (show _ = some ((intA x13.From), []) from rfl)) ?_
          refine imp ex_i64_b ?_
          refine cond_b (fun _ => ?_) (fun _ => ?_)
          · exact fun hg => ret1 (hR _ (Option.some.inj hg).symm) (fz_sc _ _)
          · refine cond_b (fun _ => ?_) (fun _ => ?_)
            · refine bind_b fun x14 h14 => ?_
              refine imp (opP_of (show _ = some ((AV.ept [(intA x14.From), (intA x14.End)] 0), []) from (idx_lst (E := TRunwaySpan.E) rfl h14))) ?_
              refine imp (opP_of (show _ = some ((AV.ept [(intA x14.From), (intA x14.End)] 1), []) from rfl)) ?_
              refine imp (opP_of (show _ = some ((intA x14.End), []) from rfl)) ?_
              refine imp ex_i64_b ?_
              refine cond_b (fun _ => ?_) (fun _ => ?_)
              · exact fun hg => ret1 (hR _ (Option.some.inj hg).symm) (fz_sc _ _)
              · exact fun hg => hN0 _ (Option.some.inj hg).symm _ (weak_mem [] rfl rfl rfl (okW_cons (ent_lst (E := TRunwaySpan.E) _ false) (okW_cons (.inl (leV_refl _)) (okW_cons (ent_lst (E := TRunwaySpan.E) _ false) (okW_cons (.inl (leV_refl _)) (okW_cons (.inl (leV_refl _)) okW_nil))))) okB_nil')
            · exact fun hg => hN0 _ (Option.some.inj hg).symm _ (weak_mem [] rfl rfl rfl (okW_cons (ent_lst (E := TRunwaySpan.E) _ false) (okW_cons (.inl (leV_refl _)) (okW_cons (ent_lst (E := TRunwaySpan.E) _ false) (okW_cons (.inl (leV_refl _)) (okW_cons (.inl (leV_refl _)) okW_nil))))) okB_nil')
        · refine cond_b (fun _ => ?_) (fun _ => ?_)
          · refine bind_b fun x15 h15 => ?_
            refine imp (opP_of (show _ = some ((AV.ept [(intA x15.From), (intA x15.End)] 0), []) from (idx_lst (E := TRunwaySpan.E) rfl h15))) ?_
            refine imp (opP_of (show _ = some ((AV.ept [(intA x15.From), (intA x15.End)] 1), []) from rfl)) ?_
            refine imp (opP_of (show _ = some ((intA x15.End), []) from rfl)) ?_
            refine imp ex_i64_b ?_
            refine cond_b (fun _ => ?_) (fun _ => ?_)
            · exact fun hg => ret1 (hR _ (Option.some.inj hg).symm) (fz_sc _ _)
            · exact fun hg => hN0 _ (Option.some.inj hg).symm _ (weak_mem [] rfl rfl rfl (okW_cons (ent_lst (E := TRunwaySpan.E) _ false) (okW_cons (.inl (leV_refl _)) (okW_cons (ent_lst (E := TRunwaySpan.E) _ false) (okW_cons (.inl (leV_refl _)) (okW_cons (.inl (leV_refl _)) okW_nil))))) okB_nil')
          · exact fun hg => hN0 _ (Option.some.inj hg).symm _ (weak_mem [] rfl rfl rfl (okW_cons (ent_lst (E := TRunwaySpan.E) _ false) (okW_cons (.inl (leV_refl _)) (okW_cons (ent_lst (E := TRunwaySpan.E) _ false) (okW_cons (.inl (leV_refl _)) (okW_cons (.inl (leV_refl _)) okW_nil))))) okB_nil')
  · exact fun hg => ret1 (hR _ (Option.some.inj hg).symm) (fz_sc _ _)
theorem L41_0_ok (n : Nat) (a0 : List TRunwaySpan) (c2 : Int) (c14 : Int) {t : ρ41} (R : AV → Mem → Prop) (hR : ∀ r : ρ41, t = r → ∀ u m, Ans ((intA r)) u m → R u m) (k : Nat) (x : Int) (hx : iterO (fun y : Int => S41_0 n a0 c2 c14 y) k x = some t) {s : St} (hw : Weak KK 64 0 s (h41_0 (lstA TRunwaySpan.E a0) c2 (lstA TRunwaySpan.E a0) c14 x [])) : Tri Try.prog KK 64 0 (.loop c41_0) s (q41_0 R ) :=
  L41_0 R  (σ := Nat × (Int)) (fun z => iterO (fun y : Int => S41_0 n a0 c2 c14 y) z.1 z.2 = some t) (fun z => (lstA TRunwaySpan.E a0)) (fun z => c2) (fun z => (lstA TRunwaySpan.E a0)) (fun z => c14) (fun z => z.2) (fun z => []) (fun z => z.1) (by
    rintro ⟨k, y⟩ h
    cases k with
    | zero => exact (iterO_zero h).elim
    | succ k =>
      obtain ⟨u, h1, h2, h3⟩ := iterO_elim h
      exact B41_0_ok n a0 c2 c14 y R  _ (fun r e => hR r (h3 _ e).symm)  (fun y' e s' hw => ⟨(k, y'), h2 _ e, Nat.lt_succ_self k, hw⟩) h1) (k, x) hx hw
theorem g41_ok (n : Nat) (a0 : List TRunwaySpan) {t : ρ41} (R : AV → Mem → Prop) (hR : ∀ r : ρ41, t = r → ∀ u m, Ans ((intA r)) u m → R u m) : g41 n a0 = some t → F41 (lstA TRunwaySpan.E a0) R := by
  unfold g41 F41
  refine imp (opP_of (show _ = some ((intA (a0.length : Int)), []) from rfl)) ?_
  refine imp ex_i64_b ?_
  refine cond_b (fun _ => ?_) (fun _ => ?_)
  · exact fun hg => ret1 (hR _ (Option.some.inj hg).symm) (fz_sc _ _)
  · refine imp (opP_of (show _ = some ((intA (a0.length : Int)), []) from rfl)) ?_
    refine imp ex_i64_b ?_
    refine cond_b (fun _ => ?_) (fun _ => ?_)
    · exact fun hg => ret1 (hR _ (Option.some.inj hg).symm) (fz_sc _ _)
    · refine imp (opP_of (show _ = some ((intA (a0.length : Int)), []) from rfl)) ?_
      refine imp ex_i64_b ?_
      exact fun hg => L41_0_ok n a0 (0) (a0.length : Int) R  hR n _ hg (weak_mem [] rfl rfl rfl (okW_cons (ent_lst (E := TRunwaySpan.E) _ false) (okW_cons (.inl (leV_refl _)) (okW_cons (ent_lst (E := TRunwaySpan.E) _ false) (okW_cons (.inl (leV_refl _)) (okW_cons (.inl (leV_refl _)) okW_nil))))) okB_nil')
theorem sg41 {n : Nat} {a0 : List TRunwaySpan} {t : ρ41} (h : g41 n a0 = some t) : Says Try.prog KK.gl 41 [(lstA TRunwaySpan.E a0)] ((intA t)) :=
  says_of_own (by first | rfl | simp [cleans, clean, encs_clean, En.cln]) (by first | rfl | simp [cleans, clean, encs_clean, En.cln]) (F41_own (lstA TRunwaySpan.E a0) _ (g41_ok n a0 (Ans ((intA t))) (fun r e u m h => by rw [e]; exact h) h))
/- skyway/wake.Check -/
theorem B36_0_0_ok (n : Nat) (c2 : Int) (c10_0 : Int) (c10_1 : Int) (c10_2 : Int) (c10_3 : Int) (c10_4 : Int) (c10_5 : Int) (c10_6 : Int) (c10_7 : Int) (c10_8 : Int) (c10_9 : Int) (c10_10 : Int) (c10_11 : Int) (c10_12 : Int) (c10_13 : Int) (c10_14 : Int) (c10_15 : Int) (v11 : Int) (c14_0 : Int) (c14_1 : Int) (c14_2 : Int) (c14_3 : Int) (w15 : Int) {t : (Int) ⊕ ((Int) ⊕ ρ36)} (R : AV → Mem → Prop) (N0 : St → Prop) (N1 : St → Prop) (hR : ∀ r : ρ36, t = (.inr (.inr r)) → ∀ u m, Ans ((intA r)) u m → R u m) (hN0 : ∀ y : Int, t = (.inr (.inl y)) → ∀ s' : St, Weak KK 55 0 s' (h36_0 c2 c10_0 c10_1 c10_2 c10_3 c10_4 c10_5 c10_6 c10_7 c10_8 c10_9 c10_10 c10_11 c10_12 c10_13 c10_14 c10_15 y c10_0 c10_1 c10_2 c10_3 c10_4 c10_5 c10_6 c10_7 c10_8 c10_9 c10_10 c10_11 c10_12 c10_13 c10_14 c10_15 []) → N0 s') (hN1 : ∀ y : Int, t = (.inl y) → ∀ s' : St, Weak KK 55 0 s' (h36_0_0 c2 c10_0 c10_1 c10_2 c10_3 c10_4 c10_5 c10_6 c10_7 c10_8 c10_9 c10_10 c10_11 c10_12 c10_13 c10_14 c10_15 v11 c14_0 c14_1 c14_2 c14_3 y c10_0 c10_1 c10_2 c10_3 c10_4 c10_5 c10_6 c10_7 c10_8 c10_9 c10_10 c10_11 c10_12 c10_13 c10_14 c10_15 []) → N1 s') : S36_0_0 n c2 c10_0 c10_1 c10_2 c10_3 c10_4 c10_5 c10_6 c10_7 c10_8 c10_9 c10_10 c10_11 c10_12 c10_13 c10_14 c10_15 v11 c14_0 c14_1 c14_2 c14_3 w15 = some t → B36_0_0 c2 c10_0 c10_1 c10_2 c10_3 c10_4 c10_5 c10_6 c10_7 c10_8 c10_9 c10_10 c10_11 c10_12 c10_13 c10_14 c10_15 v11 c14_0 c14_1 c14_2 c14_3 w15 c10_0 c10_1 c10_2 c10_3 c10_4 c10_5 c10_6 c10_7 c10_8 c10_9 c10_10 c10_11 c10_12 c10_13 c10_14 c10_15 [] R N0 N1 := by
  unfold S36_0_0 B36_0_0
  refine cond_b (fun _ => ?_) (fun _ => ?_)
  · refine bind_b fun x18 h18 => ?_
    refine imp (opP_of (show _ = some ((intA x18), []) from (opA_index_sc (E := intE) (l := ([c14_0, c14_1, c14_2, c14_3] : List Int)) (len := 4) (e := 3) (by kernel_rfl) (by kernel_rfl) (by kernel_rfl) rfl ⟨rfl, rfl⟩ h18 rfl))) ?_
    refine imp ex_i64_b ?_
    refine cond_b (fun _ => ?_) (fun _ => ?_)
    · exact fun hg => ret1 (hR _ (Option.some.inj hg).symm) (fz_sc _ _)
    · refine cond_b (fun _ => ?_) (fun _ => ?_)
      · exact fun hg => ret1 (hR _ (Option.some.inj hg).symm) (fz_sc _ _)
      · exact fun hg => hN1 _ (Option.some.inj hg).symm _ (weak_mem [(0, 0)] rfl rfl rfl (okW_cons (.inl (leV_refl _)) (okW_cons (.inl (leV_refl _)) (okW_cons (.inl (leV_refl _)) (okW_cons (.inl (leV_refl _)) (okW_cons (.inl (leV_refl _)) (okW_cons (.inl (leV_refl _)) okW_nil)))))) (okB_cons (okB_cells (cs := [(intA c10_0), (intA c10_1), (intA c10_2), (intA c10_3), (intA c10_4), (intA c10_5), (intA c10_6), (intA c10_7), (intA c10_8), (intA c10_9), (intA c10_10), (intA c10_11), (intA c10_12), (intA c10_13), (intA c10_14), (intA c10_15)]) (ty := 24) rfl (show mget _ 0 = _ from (by first | rfl | (simp (disch := first | decide | assumption) only [mpushs_nil, mpushs_cons, mget_hd, mget_tl, mget_appW_o, mget_appW_n, mget_appW_e])))) okB_nil'))
  · exact fun hg => hN0 _ (Option.some.inj hg).symm _ (weak_mem [(0, 0)] rfl rfl rfl (okW_cons (.inl (leV_refl _)) (okW_cons (.inl (leV_refl _)) (okW_cons (.inl (leV_refl _)) (okW_cons (.inl (leV_refl _)) okW_nil)))) (okB_cons (okB_cells (cs := [(intA c10_0), (intA c10_1), (intA c10_2), (intA c10_3), (intA c10_4), (intA c10_5), (intA c10_6), (intA c10_7), (intA c10_8), (intA c10_9), (intA c10_10), (intA c10_11), (intA c10_12), (intA c10_13), (intA c10_14), (intA c10_15)]) (ty := 24) rfl (show mget _ 0 = _ from (by first | rfl | (simp (disch := first | decide | assumption) only [mpushs_nil, mpushs_cons, mget_hd, mget_tl, mget_appW_o, mget_appW_n, mget_appW_e])))) okB_nil'))
theorem L36_0_0_ok (n : Nat) (c2 : Int) (c10_0 : Int) (c10_1 : Int) (c10_2 : Int) (c10_3 : Int) (c10_4 : Int) (c10_5 : Int) (c10_6 : Int) (c10_7 : Int) (c10_8 : Int) (c10_9 : Int) (c10_10 : Int) (c10_11 : Int) (c10_12 : Int) (c10_13 : Int) (c10_14 : Int) (c10_15 : Int) (v11 : Int) (c14_0 : Int) (c14_1 : Int) (c14_2 : Int) (c14_3 : Int) {t : ((Int) ⊕ ρ36)} (R : AV → Mem → Prop) (N0 : St → Prop) (hR : ∀ r : ρ36, t = (.inr r) → ∀ u m, Ans ((intA r)) u m → R u m) (hN0 : ∀ y : Int, t = (.inl y) → ∀ s' : St, Weak KK 55 0 s' (h36_0 c2 c10_0 c10_1 c10_2 c10_3 c10_4 c10_5 c10_6 c10_7 c10_8 c10_9 c10_10 c10_11 c10_12 c10_13 c10_14 c10_15 y c10_0 c10_1 c10_2 c10_3 c10_4 c10_5 c10_6 c10_7 c10_8 c10_9 c10_10 c10_11 c10_12 c10_13 c10_14 c10_15 []) → N0 s') (k : Nat) (x : Int) (hx : iterO (fun y : Int => S36_0_0 n c2 c10_0 c10_1 c10_2 c10_3 c10_4 c10_5 c10_6 c10_7 c10_8 c10_9 c10_10 c10_11 c10_12 c10_13 c10_14 c10_15 v11 c14_0 c14_1 c14_2 c14_3 y) k x = some t) {s : St} (hw : Weak KK 55 0 s (h36_0_0 c2 c10_0 c10_1 c10_2 c10_3 c10_4 c10_5 c10_6 c10_7 c10_8 c10_9 c10_10 c10_11 c10_12 c10_13 c10_14 c10_15 v11 c14_0 c14_1 c14_2 c14_3 x c10_0 c10_1 c10_2 c10_3 c10_4 c10_5 c10_6 c10_7 c10_8 c10_9 c10_10 c10_11 c10_12 c10_13 c10_14 c10_15 [])) : Tri Try.prog KK 55 0 (.loop c36_0_0) s (q36_0_0 R N0) :=
  L36_0_0 R N0 (σ := Nat × (Int)) (fun z => iterO (fun y : Int => S36_0_0 n c2 c10_0 c10_1 c10_2 c10_3 c10_4 c10_5 c10_6 c10_7 c10_8 c10_9 c10_10 c10_11 c10_12 c10_13 c10_14 c10_15 v11 c14_0 c14_1 c14_2 c14_3 y) z.1 z.2 = some t) (fun z => c2) (fun z => c10_0) (fun z => c10_1) (fun z => c10_2) (fun z => c10_3) (fun z => c10_4) (fun z => c10_5) (fun z => c10_6) (fun z => c10_7) (fun z => c10_8) (fun z => c10_9) (fun z => c10_10) (fun z => c10_11) (fun z => c10_12) (fun z => c10_13) (fun z => c10_14) (fun z => c10_15) (fun z => v11) (fun z => c14_0) (fun z => c14_1) (fun z => c14_2) (fun z => c14_3) (fun z => z.2) (fun z => c10_0) (fun z => c10_1) (fun z => c10_2) (fun z => c10_3) (fun z => c10_4) (fun z => c10_5) (fun z => c10_6) (fun z => c10_7) (fun z => c10_8) (fun z => c10_9) (fun z => c10_10) (fun z => c10_11) (fun z => c10_12) (fun z => c10_13) (fun z => c10_14) (fun z => c10_15) (fun z => []) (fun z => z.1) (by
    rintro ⟨k, y⟩ h
    cases k with
    | zero => exact (iterO_zero h).elim
    | succ k =>
      obtain ⟨u, h1, h2, h3⟩ := iterO_elim h
      exact B36_0_0_ok n c2 c10_0 c10_1 c10_2 c10_3 c10_4 c10_5 c10_6 c10_7 c10_8 c10_9 c10_10 c10_11 c10_12 c10_13 c10_14 c10_15 v11 c14_0 c14_1 c14_2 c14_3 y R N0 _ (fun r e => hR r (h3 _ e).symm) (fun y' e => hN0 y' (h3 _ e).symm) (fun y' e s' hw => ⟨(k, y'), h2 _ e, Nat.lt_succ_self k, hw⟩) h1) (k, x) hx hw
theorem B36_1_0_0_ok (n : Nat) (c2 : Int) (v26 : Int) (w29 : Int) (c10_0 : Int) (c10_1 : Int) (c10_2 : Int) (c10_3 : Int) (c10_4 : Int) (c10_5 : Int) (c10_6 : Int) (c10_7 : Int) (c10_8 : Int) (c10_9 : Int) (c10_10 : Int) (c10_11 : Int) (c10_12 : Int) (c10_13 : Int) (c10_14 : Int) (c10_15 : Int) (u32 : Int) {t : (Int) ⊕ ((Int) ⊕ ((Int) ⊕ ρ36))} (R : AV → Mem → Prop) (N0 : St → Prop) (N1 : St → Prop) (N2 : St → Prop) (hR : ∀ r : ρ36, t = (.inr (.inr (.inr r))) → ∀ u m, Ans ((intA r)) u m → R u m) (hN0 : ∀ y : Int, t = (.inr (.inr (.inl y))) → ∀ s' : St, Weak KK 55 0 s' (h36_1 c2 y c10_0 c10_1 c10_2 c10_3 c10_4 c10_5 c10_6 c10_7 c10_8 c10_9 c10_10 c10_11 c10_12 c10_13 c10_14 c10_15 []) → N0 s') (hN1 : ∀ y : Int, t = (.inr (.inl y)) → ∀ s' : St, Weak KK 55 0 s' (h36_1_0 c2 v26 v26 y c10_0 c10_1 c10_2 c10_3 c10_4 c10_5 c10_6 c10_7 c10_8 c10_9 c10_10 c10_11 c10_12 c10_13 c10_14 c10_15 []) → N1 s') (hN2 : ∀ y : Int, t = (.inl y) → ∀ s' : St, Weak KK 55 0 s' (h36_1_0_0 c2 v26 w29 v26 w29 y c10_0 c10_1 c10_2 c10_3 c10_4 c10_5 c10_6 c10_7 c10_8 c10_9 c10_10 c10_11 c10_12 c10_13 c10_14 c10_15 []) → N2 s') : S36_1_0_0 n c2 v26 w29 c10_0 c10_1 c10_2 c10_3 c10_4 c10_5 c10_6 c10_7 c10_8 c10_9 c10_10 c10_11 c10_12 c10_13 c10_14 c10_15 u32 = some t → B36_1_0_0 c2 v26 w29 v26 w29 u32 c10_0 c10_1 c10_2 c10_3 c10_4 c10_5 c10_6 c10_7 c10_8 c10_9 c10_10 c10_11 c10_12 c10_13 c10_14 c10_15 [] R N0 N1 N2 := by
  unfold S36_1_0_0 B36_1_0_0
  refine cond_b (fun _ => ?_) (fun _ => ?_)
  · refine bind_b fun x19 h19 => ?_
    refine imp (opP_of (show _ = some ((AV.ptr 0 (((v26 : Int).toNat) * 4 + 0)), []) from (idxA_ok0 (l := ([(⟨c10_0, c10_1, c10_2, c10_3⟩ : T22), (⟨c10_4, c10_5, c10_6, c10_7⟩ : T22), (⟨c10_8, c10_9, c10_10, c10_11⟩ : T22), (⟨c10_12, c10_13, c10_14, c10_15⟩ : T22)] : List T22)) (len := 4) rfl h19))) ?_
    refine bind_b fun x20 h20 => ?_
    refine imp (opP_of (show _ = some ((AV.ptr 0 _), []) from (idxA_ok (l := ([x19.c0, x19.c1, x19.c2, x19.c3] : List Int)) (len := 4) rfl h20))) ?_
    refine imp (opP_of (show _ = some ((intA x20), []) from (ldS_row (E := T22.E) (E2 := intE) (l := ([(⟨c10_0, c10_1, c10_2, c10_3⟩ : T22), (⟨c10_4, c10_5, c10_6, c10_7⟩ : T22), (⟨c10_8, c10_9, c10_10, c10_11⟩ : T22), (⟨c10_12, c10_13, c10_14, c10_15⟩ : T22)] : List T22)) (l2 := ([x19.c0, x19.c1, x19.c2, x19.c3] : List Int)) (ty := 24) (by first | rfl | (simp (disch := first | decide | assumption) only [mpushs_nil, mpushs_cons, mget_hd, mget_tl, mget_appW_o, mget_appW_n, mget_appW_e])) (getI_some h19).2 rfl rfl (getI_some h20).2 rfl))) ?_
    refine imp ex_i64_b ?_
    refine bind_b fun x21 h21 => ?_
    refine imp (opP_of (show _ = some ((AV.ptr 0 (((v26 : Int).toNat) * 4 + 0)), []) from (idxA_ok0 (l := ([(⟨c10_0, c10_1, c10_2, c10_3⟩ : T22), (⟨c10_4, c10_5, c10_6, c10_7⟩ : T22), (⟨c10_8, c10_9, c10_10, c10_11⟩ : T22), (⟨c10_12, c10_13, c10_14, c10_15⟩ : T22)] : List T22)) (len := 4) rfl h21))) ?_
    refine bind_b fun x22 h22 => ?_
    refine imp (opP_of (show _ = some ((AV.ptr 0 _), []) from (idxA_ok (l := ([x21.c0, x21.c1, x21.c2, x21.c3] : List Int)) (len := 4) rfl h22))) ?_
    refine imp (opP_of (show _ = some ((intA x22), []) from (ldS_row (E := T22.E) (E2 := intE) (l := ([(⟨c10_0, c10_1, c10_2, c10_3⟩ : T22), (⟨c10_4, c10_5, c10_6, c10_7⟩ : T22), (⟨c10_8, c10_9, c10_10, c10_11⟩ : T22), (⟨c10_12, c10_13, c10_14, c10_15⟩ : T22)] : List T22)) (l2 := ([x21.c0, x21.c1, x21.c2, x21.c3] : List Int)) (ty := 24) (by first | rfl | (simp (disch := first | decide | assumption) only [mpushs_nil, mpushs_cons, mget_hd, mget_tl, mget_appW_o, mget_appW_n, mget_appW_e])) (getI_some h21).2 rfl rfl (getI_some h22).2 rfl))) ?_
    refine imp ex_i64_b ?_
    refine bind_b fun x23 h23 => ?_
    refine imp (opP_of (show _ = some ((AV.ptr 0 (((w29 : Int).toNat) * 4 + 0)), []) from (idxA_ok0 (l := ([(⟨c10_0, c10_1, c10_2, c10_3⟩ : T22), (⟨c10_4, c10_5, c10_6, c10_7⟩ : T22), (⟨c10_8, c10_9, c10_10, c10_11⟩ : T22), (⟨c10_12, c10_13, c10_14, c10_15⟩ : T22)] : List T22)) (len := 4) rfl h23))) ?_
    refine bind_b fun x24 h24 => ?_
    refine imp (opP_of (show _ = some ((AV.ptr 0 _), []) from (idxA_ok (l := ([x23.c0, x23.c1, x23.c2, x23.c3] : List Int)) (len := 4) rfl h24))) ?_
    refine imp (opP_of (show _ = some ((intA x24), []) from (ldS_row (E := T22.E) (E2 := intE) (l := ([(⟨c10_0, c10_1, c10_2, c10_3⟩ : T22), (⟨c10_4, c10_5, c10_6, c10_7⟩ : T22), (⟨c10_8, c10_9, c10_10, c10_11⟩ : T22), (⟨c10_12, c10_13, c10_14, c10_15⟩ : T22)] : List T22)) (l2 := ([x23.c0, x23.c1, x23.c2, x23.c3] : List Int)) (ty := 24) (by first | rfl | (simp (disch := first | decide | assumption) only [mpushs_nil, mpushs_cons, mget_hd, mget_tl, mget_appW_o, mget_appW_n, mget_appW_e])) (getI_some h23).2 rfl rfl (getI_some h24).2 rfl))) ?_
    refine imp ex_i64_b ?_
    refine cond_b (fun _ => ?_) (fun _ => ?_)
    · exact fun hg => ret1 (hR _ (Option.some.inj hg).symm) (fz_sc _ _)
    · exact fun hg => hN2 _ (Option.some.inj hg).symm _ (weak_mem [(0, 0)] rfl rfl rfl (okW_cons (.inl (leV_refl _)) (okW_cons (.inl (leV_refl _)) (okW_cons (.inl (leV_refl _)) (okW_cons (.inl (leV_refl _)) (okW_cons (.inl (leV_refl _)) (okW_cons (.inl (leV_refl _)) (okW_cons (.inl (leV_refl _)) okW_nil))))))) (okB_cons (okB_cells (cs := [(intA c10_0), (intA c10_1), (intA c10_2), (intA c10_3), (intA c10_4), (intA c10_5), (intA c10_6), (intA c10_7), (intA c10_8), (intA c10_9), (intA c10_10), (intA c10_11), (intA c10_12), (intA c10_13), (intA c10_14), (intA c10_15)]) (ty := 24) rfl (show mget _ 0 = _ from (by first | rfl | (simp (disch := first | decide | assumption) only [mpushs_nil, mpushs_cons, mget_hd, mget_tl, mget_appW_o, mget_appW_n, mget_appW_e])))) okB_nil'))
  · exact fun hg => hN1 _ (Option.some.inj hg).symm _ (weak_mem [(0, 0)] rfl rfl rfl (okW_cons (.inl (leV_refl _)) (okW_cons (.inl (leV_refl _)) (okW_cons (.inl (leV_refl _)) (okW_cons (.inl (leV_refl _)) (okW_cons (.inl (leV_refl _)) okW_nil))))) (okB_cons (okB_cells (cs := [(intA c10_0), (intA c10_1), (intA c10_2), (intA c10_3), (intA c10_4), (intA c10_5), (intA c10_6), (intA c10_7), (intA c10_8), (intA c10_9), (intA c10_10), (intA c10_11), (intA c10_12), (intA c10_13), (intA c10_14), (intA c10_15)]) (ty := 24) rfl (show mget _ 0 = _ from (by first | rfl | (simp (disch := first | decide | assumption) only [mpushs_nil, mpushs_cons, mget_hd, mget_tl, mget_appW_o, mget_appW_n, mget_appW_e])))) okB_nil'))
theorem L36_1_0_0_ok (n : Nat) (c2 : Int) (v26 : Int) (w29 : Int) (c10_0 : Int) (c10_1 : Int) (c10_2 : Int) (c10_3 : Int) (c10_4 : Int) (c10_5 : Int) (c10_6 : Int) (c10_7 : Int) (c10_8 : Int) (c10_9 : Int) (c10_10 : Int) (c10_11 : Int) (c10_12 : Int) (c10_13 : Int) (c10_14 : Int) (c10_15 : Int) {t : ((Int) ⊕ ((Int) ⊕ ρ36))} (R : AV → Mem → Prop) (N0 : St → Prop) (N1 : St → Prop) (hR : ∀ r : ρ36, t = (.inr (.inr r)) → ∀ u m, Ans ((intA r)) u m → R u m) (hN0 : ∀ y : Int, t = (.inr (.inl y)) → ∀ s' : St, Weak KK 55 0 s' (h36_1 c2 y c10_0 c10_1 c10_2 c10_3 c10_4 c10_5 c10_6 c10_7 c10_8 c10_9 c10_10 c10_11 c10_12 c10_13 c10_14 c10_15 []) → N0 s') (hN1 : ∀ y : Int, t = (.inl y) → ∀ s' : St, Weak KK 55 0 s' (h36_1_0 c2 v26 v26 y c10_0 c10_1 c10_2 c10_3 c10_4 c10_5 c10_6 c10_7 c10_8 c10_9 c10_10 c10_11 c10_12 c10_13 c10_14 c10_15 []) → N1 s') (k : Nat) (x : Int) (hx : iterO (fun y : Int => S36_1_0_0 n c2 v26 w29 c10_0 c10_1 c10_2 c10_3 c10_4 c10_5 c10_6 c10_7 c10_8 c10_9 c10_10 c10_11 c10_12 c10_13 c10_14 c10_15 y) k x = some t) {s : St} (hw : Weak KK 55 0 s (h36_1_0_0 c2 v26 w29 v26 w29 x c10_0 c10_1 c10_2 c10_3 c10_4 c10_5 c10_6 c10_7 c10_8 c10_9 c10_10 c10_11 c10_12 c10_13 c10_14 c10_15 [])) : Tri Try.prog KK 55 0 (.loop c36_1_0_0) s (q36_1_0_0 R N0 N1) :=
  L36_1_0_0 R N0 N1 (σ := Nat × (Int)) (fun z => iterO (fun y : Int => S36_1_0_0 n c2 v26 w29 c10_0 c10_1 c10_2 c10_3 c10_4 c10_5 c10_6 c10_7 c10_8 c10_9 c10_10 c10_11 c10_12 c10_13 c10_14 c10_15 y) z.1 z.2 = some t) (fun z => c2) (fun z => v26) (fun z => w29) (fun z => v26) (fun z => w29) (fun z => z.2) (fun z => c10_0) (fun z => c10_1) (fun z => c10_2) (fun z => c10_3) (fun z => c10_4) (fun z => c10_5) (fun z => c10_6) (fun z => c10_7) (fun z => c10_8) (fun z => c10_9) (fun z => c10_10) (fun z => c10_11) (fun z => c10_12) (fun z => c10_13) (fun z => c10_14) (fun z => c10_15) (fun z => []) (fun z => z.1) (by
    rintro ⟨k, y⟩ h
    cases k with
    | zero => exact (iterO_zero h).elim
    | succ k =>
      obtain ⟨u, h1, h2, h3⟩ := iterO_elim h
      exact B36_1_0_0_ok n c2 v26 w29 c10_0 c10_1 c10_2 c10_3 c10_4 c10_5 c10_6 c10_7 c10_8 c10_9 c10_10 c10_11 c10_12 c10_13 c10_14 c10_15 y R N0 N1 _ (fun r e => hR r (h3 _ e).symm) (fun y' e => hN0 y' (h3 _ e).symm) (fun y' e => hN1 y' (h3 _ e).symm) (fun y' e s' hw => ⟨(k, y'), h2 _ e, Nat.lt_succ_self k, hw⟩) h1) (k, x) hx hw
theorem B36_1_0_ok (n : Nat) (c2 : Int) (v26 : Int) (c10_0 : Int) (c10_1 : Int) (c10_2 : Int) (c10_3 : Int) (c10_4 : Int) (c10_5 : Int) (c10_6 : Int) (c10_7 : Int) (c10_8 : Int) (c10_9 : Int) (c10_10 : Int) (c10_11 : Int) (c10_12 : Int) (c10_13 : Int) (c10_14 : Int) (c10_15 : Int) (w29 : Int) {t : (Int) ⊕ ((Int) ⊕ ρ36)} (R : AV → Mem → Prop) (N0 : St → Prop) (N1 : St → Prop) (hR : ∀ r : ρ36, t = (.inr (.inr r)) → ∀ u m, Ans ((intA r)) u m → R u m) (hN0 : ∀ y : Int, t = (.inr (.inl y)) → ∀ s' : St, Weak KK 55 0 s' (h36_1 c2 y c10_0 c10_1 c10_2 c10_3 c10_4 c10_5 c10_6 c10_7 c10_8 c10_9 c10_10 c10_11 c10_12 c10_13 c10_14 c10_15 []) → N0 s') (hN1 : ∀ y : Int, t = (.inl y) → ∀ s' : St, Weak KK 55 0 s' (h36_1_0 c2 v26 v26 y c10_0 c10_1 c10_2 c10_3 c10_4 c10_5 c10_6 c10_7 c10_8 c10_9 c10_10 c10_11 c10_12 c10_13 c10_14 c10_15 []) → N1 s') : S36_1_0 n c2 v26 c10_0 c10_1 c10_2 c10_3 c10_4 c10_5 c10_6 c10_7 c10_8 c10_9 c10_10 c10_11 c10_12 c10_13 c10_14 c10_15 w29 = some t → B36_1_0 c2 v26 v26 w29 c10_0 c10_1 c10_2 c10_3 c10_4 c10_5 c10_6 c10_7 c10_8 c10_9 c10_10 c10_11 c10_12 c10_13 c10_14 c10_15 [] R N0 N1 := by
  unfold S36_1_0 B36_1_0
  refine cond_b (fun _ => ?_) (fun _ => ?_)
  · exact fun hg => L36_1_0_0_ok n c2 v26 w29 c10_0 c10_1 c10_2 c10_3 c10_4 c10_5 c10_6 c10_7 c10_8 c10_9 c10_10 c10_11 c10_12 c10_13 c10_14 c10_15 R N0 N1 hR hN0 hN1 n _ hg (weak_mem [(0, 0)] rfl rfl rfl (okW_cons (.inl (leV_refl _)) (okW_cons (.inl (leV_refl _)) (okW_cons (.inl (leV_refl _)) (okW_cons (.inl (leV_refl _)) (okW_cons (.inl (leV_refl _)) (okW_cons (.inl (leV_refl _)) (okW_cons (.inl (leV_refl _)) okW_nil))))))) (okB_cons (okB_cells (cs := [(intA c10_0), (intA c10_1), (intA c10_2), (intA c10_3), (intA c10_4), (intA c10_5), (intA c10_6), (intA c10_7), (intA c10_8), (intA c10_9), (intA c10_10), (intA c10_11), (intA c10_12), (intA c10_13), (intA c10_14), (intA c10_15)]) (ty := 24) rfl (show mget _ 0 = _ from (by first | rfl | (simp (disch := first | decide | assumption) only [mpushs_nil, mpushs_cons, mget_hd, mget_tl, mget_appW_o, mget_appW_n, mget_appW_e])))) okB_nil'))
  · exact fun hg => hN0 _ (Option.some.inj hg).symm _ (weak_mem [(0, 0)] rfl rfl rfl (okW_cons (.inl (leV_refl _)) (okW_cons (.inl (leV_refl _)) (okW_cons (.inl (leV_refl _)) okW_nil))) (okB_cons (okB_cells (cs := [(intA c10_0), (intA c10_1), (intA c10_2), (intA c10_3), (intA c10_4), (intA c10_5), (intA c10_6), (intA c10_7), (intA c10_8), (intA c10_9), (intA c10_10), (intA c10_11), (intA c10_12), (intA c10_13), (intA c10_14), (intA c10_15)]) (ty := 24) rfl (show mget _ 0 = _ from (by first | rfl | (simp (disch := first | decide | assumption) only [mpushs_nil, mpushs_cons, mget_hd, mget_tl, mget_appW_o, mget_appW_n, mget_appW_e])))) okB_nil'))
theorem L36_1_0_ok (n : Nat) (c2 : Int) (v26 : Int) (c10_0 : Int) (c10_1 : Int) (c10_2 : Int) (c10_3 : Int) (c10_4 : Int) (c10_5 : Int) (c10_6 : Int) (c10_7 : Int) (c10_8 : Int) (c10_9 : Int) (c10_10 : Int) (c10_11 : Int) (c10_12 : Int) (c10_13 : Int) (c10_14 : Int) (c10_15 : Int) {t : ((Int) ⊕ ρ36)} (R : AV → Mem → Prop) (N0 : St → Prop) (hR : ∀ r : ρ36, t = (.inr r) → ∀ u m, Ans ((intA r)) u m → R u m) (hN0 : ∀ y : Int, t = (.inl y) → ∀ s' : St, Weak KK 55 0 s' (h36_1 c2 y c10_0 c10_1 c10_2 c10_3 c10_4 c10_5 c10_6 c10_7 c10_8 c10_9 c10_10 c10_11 c10_12 c10_13 c10_14 c10_15 []) → N0 s') (k : Nat) (x : Int) (hx : iterO (fun y : Int => S36_1_0 n c2 v26 c10_0 c10_1 c10_2 c10_3 c10_4 c10_5 c10_6 c10_7 c10_8 c10_9 c10_10 c10_11 c10_12 c10_13 c10_14 c10_15 y) k x = some t) {s : St} (hw : Weak KK 55 0 s (h36_1_0 c2 v26 v26 x c10_0 c10_1 c10_2 c10_3 c10_4 c10_5 c10_6 c10_7 c10_8 c10_9 c10_10 c10_11 c10_12 c10_13 c10_14 c10_15 [])) : Tri Try.prog KK 55 0 (.loop c36_1_0) s (q36_1_0 R N0) :=
  L36_1_0 R N0 (σ := Nat × (Int)) (fun z => iterO (fun y : Int => S36_1_0 n c2 v26 c10_0 c10_1 c10_2 c10_3 c10_4 c10_5 c10_6 c10_7 c10_8 c10_9 c10_10 c10_11 c10_12 c10_13 c10_14 c10_15 y) z.1 z.2 = some t) (fun z => c2) (fun z => v26) (fun z => v26) (fun z => z.2) (fun z => c10_0) (fun z => c10_1) (fun z => c10_2) (fun z => c10_3) (fun z => c10_4) (fun z => c10_5) (fun z => c10_6) (fun z => c10_7) (fun z => c10_8) (fun z => c10_9) (fun z => c10_10) (fun z => c10_11) (fun z => c10_12) (fun z => c10_13) (fun z => c10_14) (fun z => c10_15) (fun z => []) (fun z => z.1) (by
    rintro ⟨k, y⟩ h
    cases k with
    | zero => exact (iterO_zero h).elim
    | succ k =>
      obtain ⟨u, h1, h2, h3⟩ := iterO_elim h
      exact B36_1_0_ok n c2 v26 c10_0 c10_1 c10_2 c10_3 c10_4 c10_5 c10_6 c10_7 c10_8 c10_9 c10_10 c10_11 c10_12 c10_13 c10_14 c10_15 y R N0 _ (fun r e => hR r (h3 _ e).symm) (fun y' e => hN0 y' (h3 _ e).symm) (fun y' e s' hw => ⟨(k, y'), h2 _ e, Nat.lt_succ_self k, hw⟩) h1) (k, x) hx hw
theorem B36_1_ok (n : Nat) (c2 : Int) (c10_0 : Int) (c10_1 : Int) (c10_2 : Int) (c10_3 : Int) (c10_4 : Int) (c10_5 : Int) (c10_6 : Int) (c10_7 : Int) (c10_8 : Int) (c10_9 : Int) (c10_10 : Int) (c10_11 : Int) (c10_12 : Int) (c10_13 : Int) (c10_14 : Int) (c10_15 : Int) (v26 : Int) {t : (Int) ⊕ ρ36} (R : AV → Mem → Prop) (N0 : St → Prop) (hR : ∀ r : ρ36, t = (.inr r) → ∀ u m, Ans ((intA r)) u m → R u m) (hN0 : ∀ y : Int, t = (.inl y) → ∀ s' : St, Weak KK 55 0 s' (h36_1 c2 y c10_0 c10_1 c10_2 c10_3 c10_4 c10_5 c10_6 c10_7 c10_8 c10_9 c10_10 c10_11 c10_12 c10_13 c10_14 c10_15 []) → N0 s') : S36_1 n c2 c10_0 c10_1 c10_2 c10_3 c10_4 c10_5 c10_6 c10_7 c10_8 c10_9 c10_10 c10_11 c10_12 c10_13 c10_14 c10_15 v26 = some t → B36_1 c2 v26 c10_0 c10_1 c10_2 c10_3 c10_4 c10_5 c10_6 c10_7 c10_8 c10_9 c10_10 c10_11 c10_12 c10_13 c10_14 c10_15 [] R N0 := by
  unfold S36_1 B36_1
  refine cond_b (fun _ => ?_) (fun _ => ?_)
  · exact fun hg => L36_1_0_ok n c2 v26 c10_0 c10_1 c10_2 c10_3 c10_4 c10_5 c10_6 c10_7 c10_8 c10_9 c10_10 c10_11 c10_12 c10_13 c10_14 c10_15 R N0 hR hN0 n _ hg (weak_mem [(0, 0)] rfl rfl rfl (okW_cons (.inl (leV_refl _)) (okW_cons (.inl (leV_refl _)) (okW_cons (.inl (leV_refl _)) (okW_cons (.inl (leV_refl _)) (okW_cons (.inl (leV_refl _)) okW_nil))))) (okB_cons (okB_cells (cs := [(intA c10_0), (intA c10_1), (intA c10_2), (intA c10_3), (intA c10_4), (intA c10_5), (intA c10_6), (intA c10_7), (intA c10_8), (intA c10_9), (intA c10_10), (intA c10_11), (intA c10_12), (intA c10_13), (intA c10_14), (intA c10_15)]) (ty := 24) rfl (show mget _ 0 = _ from (by first | rfl | (simp (disch := first | decide | assumption) only [mpushs_nil, mpushs_cons, mget_hd, mget_tl, mget_appW_o, mget_appW_n, mget_appW_e])))) okB_nil'))
  · exact fun hg => ret1 (hR _ (Option.some.inj hg).symm) (fz_sc _ _)
theorem L36_1_ok (n : Nat) (c2 : Int) (c10_0 : Int) (c10_1 : Int) (c10_2 : Int) (c10_3 : Int) (c10_4 : Int) (c10_5 : Int) (c10_6 : Int) (c10_7 : Int) (c10_8 : Int) (c10_9 : Int) (c10_10 : Int) (c10_11 : Int) (c10_12 : Int) (c10_13 : Int) (c10_14 : Int) (c10_15 : Int) {t : ρ36} (R : AV → Mem → Prop) (hR : ∀ r : ρ36, t = r → ∀ u m, Ans ((intA r)) u m → R u m) (k : Nat) (x : Int) (hx : iterO (fun y : Int => S36_1 n c2 c10_0 c10_1 c10_2 c10_3 c10_4 c10_5 c10_6 c10_7 c10_8 c10_9 c10_10 c10_11 c10_12 c10_13 c10_14 c10_15 y) k x = some t) {s : St} (hw : Weak KK 55 0 s (h36_1 c2 x c10_0 c10_1 c10_2 c10_3 c10_4 c10_5 c10_6 c10_7 c10_8 c10_9 c10_10 c10_11 c10_12 c10_13 c10_14 c10_15 [])) : Tri Try.prog KK 55 0 (.loop c36_1) s (q36_1 R ) :=
  L36_1 R  (σ := Nat × (Int)) (fun z => iterO (fun y : Int => S36_1 n c2 c10_0 c10_1 c10_2 c10_3 c10_4 c10_5 c10_6 c10_7 c10_8 c10_9 c10_10 c10_11 c10_12 c10_13 c10_14 c10_15 y) z.1 z.2 = some t) (fun z => c2) (fun z => z.2) (fun z => c10_0) (fun z => c10_1) (fun z => c10_2) (fun z => c10_3) (fun z => c10_4) (fun z => c10_5) (fun z => c10_6) (fun z => c10_7) (fun z => c10_8) (fun z => c10_9) (fun z => c10_10) (fun z => c10_11) (fun z => c10_12) (fun z => c10_13) (fun z => c10_14) (fun z => c10_15) (fun z => []) (fun z => z.1) (by
    rintro ⟨k, y⟩ h
    cases k with
    | zero => exact (iterO_zero h).elim
    | succ k =>
      obtain ⟨u, h1, h2, h3⟩ := iterO_elim h
      exact B36_1_ok n c2 c10_0 c10_1 c10_2 c10_3 c10_4 c10_5 c10_6 c10_7 c10_8 c10_9 c10_10 c10_11 c10_12 c10_13 c10_14 c10_15 y R  _ (fun r e => hR r (h3 _ e).symm)  (fun y' e s' hw => ⟨(k, y'), h2 _ e, Nat.lt_succ_self k, hw⟩) h1) (k, x) hx hw
theorem B36_0_ok (n : Nat) (c2 : Int) (c10_0 : Int) (c10_1 : Int) (c10_2 : Int) (c10_3 : Int) (c10_4 : Int) (c10_5 : Int) (c10_6 : Int) (c10_7 : Int) (c10_8 : Int) (c10_9 : Int) (c10_10 : Int) (c10_11 : Int) (c10_12 : Int) (c10_13 : Int) (c10_14 : Int) (c10_15 : Int) (v11 : Int) {t : (Int) ⊕ ρ36} (R : AV → Mem → Prop) (N0 : St → Prop) (hR : ∀ r : ρ36, t = (.inr r) → ∀ u m, Ans ((intA r)) u m → R u m) (hN0 : ∀ y : Int, t = (.inl y) → ∀ s' : St, Weak KK 55 0 s' (h36_0 c2 c10_0 c10_1 c10_2 c10_3 c10_4 c10_5 c10_6 c10_7 c10_8 c10_9 c10_10 c10_11 c10_12 c10_13 c10_14 c10_15 y c10_0 c10_1 c10_2 c10_3 c10_4 c10_5 c10_6 c10_7 c10_8 c10_9 c10_10 c10_11 c10_12 c10_13 c10_14 c10_15 []) → N0 s') : S36_0 n c2 c10_0 c10_1 c10_2 c10_3 c10_4 c10_5 c10_6 c10_7 c10_8 c10_9 c10_10 c10_11 c10_12 c10_13 c10_14 c10_15 v11 = some t → B36_0 c2 c10_0 c10_1 c10_2 c10_3 c10_4 c10_5 c10_6 c10_7 c10_8 c10_9 c10_10 c10_11 c10_12 c10_13 c10_14 c10_15 v11 c10_0 c10_1 c10_2 c10_3 c10_4 c10_5 c10_6 c10_7 c10_8 c10_9 c10_10 c10_11 c10_12 c10_13 c10_14 c10_15 [] R N0 := by
  unfold S36_0 B36_0
  refine cond_b (fun _ => ?_) (fun _ => ?_)
  · refine bind_b fun x17 h17 => ?_
    refine imp (opP_of (show _ = some ((AV.agg [(intA x17.c0), (intA x17.c1), (intA x17.c2), (intA x17.c3)]), []) from (opA_index_agg (E := T22.E) (l := ([(⟨c10_0, c10_1, c10_2, c10_3⟩ : T22), (⟨c10_4, c10_5, c10_6, c10_7⟩ : T22), (⟨c10_8, c10_9, c10_10, c10_11⟩ : T22), (⟨c10_12, c10_13, c10_14, c10_15⟩ : T22)] : List T22)) (len := 4) (e := 22) (by kernel_rfl) (by kernel_rfl) (by kernel_rfl) rfl ⟨rfl, rfl⟩ h17))) ?_
    refine imp exA4_b ?_
    refine imp ex_i64_b ?_
    refine imp ex_i64_b ?_
    refine imp ex_i64_b ?_
    refine imp ex_i64_b ?_
    exact fun hg => L36_0_0_ok n c2 c10_0 c10_1 c10_2 c10_3 c10_4 c10_5 c10_6 c10_7 c10_8 c10_9 c10_10 c10_11 c10_12 c10_13 c10_14 c10_15 v11 x17.c0 x17.c1 x17.c2 x17.c3 R N0 hR hN0 n _ hg (weak_mem [(0, 0)] rfl rfl rfl (okW_cons (.inl (leV_refl _)) (okW_cons (.inl (leV_refl _)) (okW_cons (.inl (leV_refl _)) (okW_cons (.inl (leV_refl _)) (okW_cons (.inl (leV_refl _)) (okW_cons (.inl (leV_refl _)) okW_nil)))))) (okB_cons (okB_cells (cs := [(intA c10_0), (intA c10_1), (intA c10_2), (intA c10_3), (intA c10_4), (intA c10_5), (intA c10_6), (intA c10_7), (intA c10_8), (intA c10_9), (intA c10_10), (intA c10_11), (intA c10_12), (intA c10_13), (intA c10_14), (intA c10_15)]) (ty := 24) rfl (show mget _ 0 = _ from (by first | rfl | (simp (disch := first | decide | assumption) only [mpushs_nil, mpushs_cons, mget_hd, mget_tl, mget_appW_o, mget_appW_n, mget_appW_e])))) okB_nil'))
  · refine mapInr_b fun t0 e0 => ?_
    exact fun hg => L36_1_ok n c2 c10_0 c10_1 c10_2 c10_3 c10_4 c10_5 c10_6 c10_7 c10_8 c10_9 c10_10 c10_11 c10_12 c10_13 c10_14 c10_15 R  (fun r e => hR r (e0.trans (congrArg Sum.inr e))) n _ hg (weak_mem [(0, 0)] rfl rfl rfl (okW_cons (.inl (leV_refl _)) (okW_cons (.inl (leV_refl _)) (okW_cons (.inl (leV_refl _)) okW_nil))) (okB_cons (okB_cells (cs := [(intA c10_0), (intA c10_1), (intA c10_2), (intA c10_3), (intA c10_4), (intA c10_5), (intA c10_6), (intA c10_7), (intA c10_8), (intA c10_9), (intA c10_10), (intA c10_11), (intA c10_12), (intA c10_13), (intA c10_14), (intA c10_15)]) (ty := 24) rfl (show mget _ 0 = _ from (by first | rfl | (simp (disch := first | decide | assumption) only [mpushs_nil, mpushs_cons, mget_hd, mget_tl, mget_appW_o, mget_appW_n, mget_appW_e])))) okB_nil'))
theorem L36_0_ok (n : Nat) (c2 : Int) (c10_0 : Int) (c10_1 : Int) (c10_2 : Int) (c10_3 : Int) (c10_4 : Int) (c10_5 : Int) (c10_6 : Int) (c10_7 : Int) (c10_8 : Int) (c10_9 : Int) (c10_10 : Int) (c10_11 : Int) (c10_12 : Int) (c10_13 : Int) (c10_14 : Int) (c10_15 : Int) {t : ρ36} (R : AV → Mem → Prop) (hR : ∀ r : ρ36, t = r → ∀ u m, Ans ((intA r)) u m → R u m) (k : Nat) (x : Int) (hx : iterO (fun y : Int => S36_0 n c2 c10_0 c10_1 c10_2 c10_3 c10_4 c10_5 c10_6 c10_7 c10_8 c10_9 c10_10 c10_11 c10_12 c10_13 c10_14 c10_15 y) k x = some t) {s : St} (hw : Weak KK 55 0 s (h36_0 c2 c10_0 c10_1 c10_2 c10_3 c10_4 c10_5 c10_6 c10_7 c10_8 c10_9 c10_10 c10_11 c10_12 c10_13 c10_14 c10_15 x c10_0 c10_1 c10_2 c10_3 c10_4 c10_5 c10_6 c10_7 c10_8 c10_9 c10_10 c10_11 c10_12 c10_13 c10_14 c10_15 [])) : Tri Try.prog KK 55 0 (.loop c36_0) s (q36_0 R ) :=
  L36_0 R  (σ := Nat × (Int)) (fun z => iterO (fun y : Int => S36_0 n c2 c10_0 c10_1 c10_2 c10_3 c10_4 c10_5 c10_6 c10_7 c10_8 c10_9 c10_10 c10_11 c10_12 c10_13 c10_14 c10_15 y) z.1 z.2 = some t) (fun z => c2) (fun z => c10_0) (fun z => c10_1) (fun z => c10_2) (fun z => c10_3) (fun z => c10_4) (fun z => c10_5) (fun z => c10_6) (fun z => c10_7) (fun z => c10_8) (fun z => c10_9) (fun z => c10_10) (fun z => c10_11) (fun z => c10_12) (fun z => c10_13) (fun z => c10_14) (fun z => c10_15) (fun z => z.2) (fun z => c10_0) (fun z => c10_1) (fun z => c10_2) (fun z => c10_3) (fun z => c10_4) (fun z => c10_5) (fun z => c10_6) (fun z => c10_7) (fun z => c10_8) (fun z => c10_9) (fun z => c10_10) (fun z => c10_11) (fun z => c10_12) (fun z => c10_13) (fun z => c10_14) (fun z => c10_15) (fun z => []) (fun z => z.1) (by
    rintro ⟨k, y⟩ h
    cases k with
    | zero => exact (iterO_zero h).elim
    | succ k =>
      obtain ⟨u, h1, h2, h3⟩ := iterO_elim h
      exact B36_0_ok n c2 c10_0 c10_1 c10_2 c10_3 c10_4 c10_5 c10_6 c10_7 c10_8 c10_9 c10_10 c10_11 c10_12 c10_13 c10_14 c10_15 y R  _ (fun r e => hR r (h3 _ e).symm)  (fun y' e s' hw => ⟨(k, y'), h2 _ e, Nat.lt_succ_self k, hw⟩) h1) (k, x) hx hw
theorem g36_ok (n : Nat) (a0 : TWakeTable) {t : ρ36} (R : AV → Mem → Prop) (hR : ∀ r : ρ36, t = r → ∀ u m, Ans ((intA r)) u m → R u m) : g36 n a0 = some t → F36 a0.c0_0 a0.c0_1 a0.c0_2 a0.c0_3 a0.c1_0 a0.c1_1 a0.c1_2 a0.c1_3 a0.c2_0 a0.c2_1 a0.c2_2 a0.c2_3 a0.c3_0 a0.c3_1 a0.c3_2 a0.c3_3 R := by
  unfold g36 F36
  exact fun hg => L36_0_ok n (0) a0.c0_0 a0.c0_1 a0.c0_2 a0.c0_3 a0.c1_0 a0.c1_1 a0.c1_2 a0.c1_3 a0.c2_0 a0.c2_1 a0.c2_2 a0.c2_3 a0.c3_0 a0.c3_1 a0.c3_2 a0.c3_3 R  hR n _ hg (weak_mem [(0, 0)] rfl rfl rfl (okW_cons (.inl (leV_refl _)) (okW_cons (.inl (leV_refl _)) (okW_cons (.inl (leV_refl _)) (okW_cons (.inl (leV_refl _)) okW_nil)))) (okB_cons (okB_cells (cs := [(intA a0.c0_0), (intA a0.c0_1), (intA a0.c0_2), (intA a0.c0_3), (intA a0.c1_0), (intA a0.c1_1), (intA a0.c1_2), (intA a0.c1_3), (intA a0.c2_0), (intA a0.c2_1), (intA a0.c2_2), (intA a0.c2_3), (intA a0.c3_0), (intA a0.c3_1), (intA a0.c3_2), (intA a0.c3_3)]) (ty := 24) rfl (show mget _ 0 = _ from (by first | rfl | (simp (disch := first | decide | assumption) only [mpushs_nil, mpushs_cons, mget_hd, mget_tl, mget_appW_o, mget_appW_n, mget_appW_e])))) okB_nil'))
theorem sg36 {n : Nat} {a0 : TWakeTable} {t : ρ36} (h : g36 n a0 = some t) : Says Try.prog KK.gl 36 [(AV.agg [(intA a0.c0_0), (intA a0.c0_1), (intA a0.c0_2), (intA a0.c0_3), (intA a0.c1_0), (intA a0.c1_1), (intA a0.c1_2), (intA a0.c1_3), (intA a0.c2_0), (intA a0.c2_1), (intA a0.c2_2), (intA a0.c2_3), (intA a0.c3_0), (intA a0.c3_1), (intA a0.c3_2), (intA a0.c3_3)])] ((intA t)) :=
  says_of_own (by first | rfl | simp [cleans, clean, encs_clean, En.cln]) (by first | rfl | simp [cleans, clean, encs_clean, En.cln]) (F36_own a0.c0_0 a0.c0_1 a0.c0_2 a0.c0_3 a0.c1_0 a0.c1_1 a0.c1_2 a0.c1_3 a0.c2_0 a0.c2_1 a0.c2_2 a0.c2_3 a0.c3_0 a0.c3_1 a0.c3_2 a0.c3_3 _ (g36_ok n a0 (Ans ((intA t))) (fun r e u m h => by rw [e]; exact h) h))
/- skyway/runway.direction -/
theorem B44_0_ok (n : Nat) (a1 : Int) (c4 : Int) (c5 : Bool) (x29 : List TRunwaySpan) (c21 : Int) (v6 : Int) (v22 : Int) {t : (Int × Int) ⊕ ρ44} (R : AV → Mem → Prop) (N0 : St → Prop) (hR : ∀ r : ρ44, t = (.inr r) → ∀ u m, Ans ((AV.tup [(intA r.1), (boolA r.2)])) u m → R u m) (hN0 : ∀ y : Int × Int, t = (.inl y) → ∀ s' : St, Weak KK 44 0 s' (h44_0 a1 c4 c5 y.1 (lstA TRunwaySpan.E x29) c21 y.2 []) → N0 s') : S44_0 n a1 c4 c5 x29 c21 v6 v22 = some t → B44_0 a1 c4 c5 v6 (lstA TRunwaySpan.E x29) c21 v22 [] R N0 := by
  unfold S44_0 B44_0
  refine cond_b (fun _ => ?_) (fun _ => ?_)
  · refine bind_b fun x30 h30 => ?_
    refine imp (opP_of (show _ = some ((AV.ept [(intA x30.From), (intA x30.End)] 0), []) from (idx_lst (E := TRunwaySpan.E) rfl h30))) ?_
    refine imp (opP_of (show _ = some ((AV.agg [(intA x30.From), (intA x30.End)]), []) from rfl)) ?_
    refine imp exA2_b ?_
    refine imp ex_i64_b ?_
    refine imp ex_i64_b ?_
    refine imp (opP_of (show _ = some ((intA (if (IntKind.wrap .i64 (x30.From - a1)) > (IntKind.wrap .i64 (a1 - x30.From)) then (IntKind.wrap .i64 (x30.From - a1)) else (IntKind.wrap .i64 (a1 - x30.From)))), []) from (by kernel_rfl))) ?_
    refine imp ex_i64_b ?_
    refine cond_b (fun _ => ?_) (fun _ => ?_)
    · exact fun hg => retN rfl (hR _ (Option.some.inj hg).symm) (fzL_cons (fz_sc _ _) (fzL_cons (fz_sc _ _) fzL_nil))
    · refine cond_b (fun _ => ?_) (fun _ => ?_)
      · exact fun hg => hN0 _ (Option.some.inj hg).symm _ (weak_mem [] rfl rfl rfl (okW_cons (.inl (leV_refl _)) (okW_cons (.inl (leV_refl _)) (okW_cons (.inl (leV_refl _)) (okW_cons (.inl (leV_refl _)) (okW_cons (ent_lst (E := TRunwaySpan.E) _ false) (okW_cons (.inl (leV_refl _)) (okW_cons (.inl (leV_refl _)) okW_nil))))))) okB_nil')
      · exact fun hg => hN0 _ (Option.some.inj hg).symm _ (weak_mem [] rfl rfl rfl (okW_cons (.inl (leV_refl _)) (okW_cons (.inl (leV_refl _)) (okW_cons (.inl (leV_refl _)) (okW_cons (.inl (leV_refl _)) (okW_cons (ent_lst (E := TRunwaySpan.E) _ false) (okW_cons (.inl (leV_refl _)) (okW_cons (.inl (leV_refl _)) okW_nil))))))) okB_nil')
  · exact fun hg => retN rfl (hR _ (Option.some.inj hg).symm) (fzL_cons (fz_sc _ _) (fzL_cons (fz_sc _ _) fzL_nil))
theorem L44_0_ok (n : Nat) (a1 : Int) (c4 : Int) (c5 : Bool) (x29 : List TRunwaySpan) (c21 : Int) {t : ρ44} (R : AV → Mem → Prop) (hR : ∀ r : ρ44, t = r → ∀ u m, Ans ((AV.tup [(intA r.1), (boolA r.2)])) u m → R u m) (k : Nat) (x : Int × Int) (hx : iterO (fun y : Int × Int => S44_0 n a1 c4 c5 x29 c21 y.1 y.2) k x = some t) {s : St} (hw : Weak KK 44 0 s (h44_0 a1 c4 c5 x.1 (lstA TRunwaySpan.E x29) c21 x.2 [])) : Tri Try.prog KK 44 0 (.loop c44_0) s (q44_0 R ) :=
  L44_0 R  (σ := Nat × (Int × Int)) (fun z => iterO (fun y : Int × Int => S44_0 n a1 c4 c5 x29 c21 y.1 y.2) z.1 z.2 = some t) (fun z => a1) (fun z => c4) (fun z => c5) (fun z => z.2.1) (fun z => (lstA TRunwaySpan.E x29)) (fun z => c21) (fun z => z.2.2) (fun z => []) (fun z => z.1) (by
    rintro ⟨k, y⟩ h
    cases k with
    | zero => exact (iterO_zero h).elim
    | succ k =>
      obtain ⟨u, h1, h2, h3⟩ := iterO_elim h
      exact B44_0_ok n a1 c4 c5 x29 c21 y.1 y.2 R  _ (fun r e => hR r (h3 _ e).symm)  (fun y' e s' hw => ⟨(k, y'), h2 _ e, Nat.lt_succ_self k, hw⟩) h1) (k, x) hx hw
theorem g44_ok (n : Nat) (a0 : List TRunwaySpan) (a1 : Int) {t : ρ44} (R : AV → Mem → Prop) (hR : ∀ r : ρ44, t = r → ∀ u m, Ans ((AV.tup [(intA r.1), (boolA r.2)])) u m → R u m) : g44 n a0 a1 = some t → F44 (lstA TRunwaySpan.E a0) a1 R := by
  unfold g44 F44
  refine bind_b fun x27 h27 => ?_
  refine imp (opP_of (show _ = some ((AV.ept [(intA x27.From), (intA x27.End)] 0), []) from (idx_lst (E := TRunwaySpan.E) rfl h27))) ?_
  refine imp (opP_of (show _ = some ((AV.ept [(intA x27.From), (intA x27.End)] 0), []) from rfl)) ?_
  refine imp (opP_of (show _ = some ((intA x27.From), []) from rfl)) ?_
  refine imp ex_i64_b ?_
  refine cond_b (fun _ => ?_) (fun _ => ?_)
  · exact fun hg => retN rfl (hR _ (Option.some.inj hg).symm) (fzL_cons (fz_sc _ _) (fzL_cons (fz_sc _ _) fzL_nil))
  · refine bind_b fun x28 h28 => ?_
    refine imp (opP_of (show _ = some ((AV.ept [(intA x28.From), (intA x28.End)] 0), []) from (idx_lst (E := TRunwaySpan.E) rfl h28))) ?_
    refine imp (opP_of (show _ = some ((AV.ept [(intA x28.From), (intA x28.End)] 1), []) from rfl)) ?_
    refine imp (opP_of (show _ = some ((intA x28.End), []) from rfl)) ?_
    refine imp ex_i64_b ?_
    refine bind_b fun x29 h29 => ?_
    refine imp (opP_of (show _ = some ((lstA TRunwaySpan.E x29), []) from (slc_lo (E := TRunwaySpan.E) (e := 45) (by kernel_rfl) (by kernel_rfl) rfl h29))) ?_
    refine imp (opP_of (show _ = some ((intA (x29.length : Int)), []) from rfl)) ?_
    refine imp ex_i64_b ?_
    exact fun hg => L44_0_ok n a1 (0) false x29 (x29.length : Int) R  hR n _ hg (weak_mem [] rfl rfl rfl (okW_cons (.inl (leV_refl _)) (okW_cons (.inl (leV_refl _)) (okW_cons (.inl (leV_refl _)) (okW_cons (.inl (leV_refl _)) (okW_cons (ent_lst (E := TRunwaySpan.E) _ false) (okW_cons (.inl (leV_refl _)) (okW_cons (.inl (leV_refl _)) okW_nil))))))) okB_nil')
theorem sg44 {n : Nat} {a0 : List TRunwaySpan} {a1 : Int} {t : ρ44} (h : g44 n a0 a1 = some t) : Says Try.prog KK.gl 44 [(lstA TRunwaySpan.E a0), (intA a1)] ((AV.tup [(intA t.1), (boolA t.2)])) :=
  says_of_own (by first | rfl | simp [cleans, clean, encs_clean, En.cln]) (by first | rfl | simp [cleans, clean, encs_clean, En.cln]) (F44_own (lstA TRunwaySpan.E a0) a1 _ (g44_ok n a0 a1 (Ans ((AV.tup [(intA t.1), (boolA t.2)]))) (fun r e u m h => by rw [e]; exact h) h))
/- skyway/runway.gap -/
theorem g45_ok (n : Nat) (a0 : TWakeTable) (a1 : TRunwayMove) (a2 : TRunwayMove) {t : ρ45} (R : AV → Mem → Prop) (hR : ∀ r : ρ45, t = r → ∀ u m, Ans ((intA r)) u m → R u m) : g45 n a0 a1 a2 = some t → F45 a0.c0_0 a0.c0_1 a0.c0_2 a0.c0_3 a0.c1_0 a0.c1_1 a0.c1_2 a0.c1_3 a0.c2_0 a0.c2_1 a0.c2_2 a0.c2_3 a0.c3_0 a0.c3_1 a0.c3_2 a0.c3_3 a1.Time a1.Wake a1.Departs a1.End a2.Time a2.Wake a2.Departs a2.End R := by
  unfold g45 F45
  refine imp (opP_of (show _ = some ((boolA (!(a1.Departs == a2.Departs))), []) from (by kernel_rfl))) ?_
  refine imp exB_b ?_
  refine cond_b (fun _ => ?_) (fun _ => ?_)
  · exact fun hg => ret1 (hR _ (Option.some.inj hg).symm) (fz_sc _ _)
  · refine bind_b fun x35 h35 => ?_
    refine imp (opP_of (show _ = some ((AV.ptr 0 (((a1.Wake : Int).toNat) * 4 + 0)), []) from (idxA_ok0 (l := ([(⟨a0.c0_0, a0.c0_1, a0.c0_2, a0.c0_3⟩ : T22), (⟨a0.c1_0, a0.c1_1, a0.c1_2, a0.c1_3⟩ : T22), (⟨a0.c2_0, a0.c2_1, a0.c2_2, a0.c2_3⟩ : T22), (⟨a0.c3_0, a0.c3_1, a0.c3_2, a0.c3_3⟩ : T22)] : List T22)) (len := 4) rfl h35))) ?_
    refine bind_b fun x36 h36 => ?_
    refine imp (opP_of (show _ = some ((AV.ptr 0 _), []) from (idxA_ok (l := ([x35.c0, x35.c1, x35.c2, x35.c3] : List Int)) (len := 4) rfl h36))) ?_
    refine imp (opP_of (show _ = some ((intA x36), []) from (ldS_row (E := T22.E) (E2 := intE) (l := ([(⟨a0.c0_0, a0.c0_1, a0.c0_2, a0.c0_3⟩ : T22), (⟨a0.c1_0, a0.c1_1, a0.c1_2, a0.c1_3⟩ : T22), (⟨a0.c2_0, a0.c2_1, a0.c2_2, a0.c2_3⟩ : T22), (⟨a0.c3_0, a0.c3_1, a0.c3_2, a0.c3_3⟩ : T22)] : List T22)) (l2 := ([x35.c0, x35.c1, x35.c2, x35.c3] : List Int)) (ty := 24) (by first | rfl | (simp (disch := first | decide | assumption) only [mpushs_nil, mpushs_cons, mget_hd, mget_tl, mget_appW_o, mget_appW_n, mget_appW_e])) (getI_some h35).2 rfl rfl (getI_some h36).2 rfl))) ?_
    refine imp ex_i64_b ?_
    exact fun hg => ret1 (hR _ (Option.some.inj hg).symm) (fz_sc _ _)
theorem sg45 {n : Nat} {a0 : TWakeTable} {a1 : TRunwayMove} {a2 : TRunwayMove} {t : ρ45} (h : g45 n a0 a1 a2 = some t) : Says Try.prog KK.gl 45 [(AV.agg [(intA a0.c0_0), (intA a0.c0_1), (intA a0.c0_2), (intA a0.c0_3), (intA a0.c1_0), (intA a0.c1_1), (intA a0.c1_2), (intA a0.c1_3), (intA a0.c2_0), (intA a0.c2_1), (intA a0.c2_2), (intA a0.c2_3), (intA a0.c3_0), (intA a0.c3_1), (intA a0.c3_2), (intA a0.c3_3)]), (AV.agg [(intA a1.Time), (intA a1.Wake), (boolA a1.Departs), (intA a1.End)]), (AV.agg [(intA a2.Time), (intA a2.Wake), (boolA a2.Departs), (intA a2.End)])] ((intA t)) :=
  says_of_own (by first | rfl | simp [cleans, clean, encs_clean, En.cln]) (by first | rfl | simp [cleans, clean, encs_clean, En.cln]) (F45_own a0.c0_0 a0.c0_1 a0.c0_2 a0.c0_3 a0.c1_0 a0.c1_1 a0.c1_2 a0.c1_3 a0.c2_0 a0.c2_1 a0.c2_2 a0.c2_3 a0.c3_0 a0.c3_1 a0.c3_2 a0.c3_3 a1.Time a1.Wake a1.Departs a1.End a2.Time a2.Wake a2.Departs a2.End _ (g45_ok n a0 a1 a2 (Ans ((intA t))) (fun r e u m h => by rw [e]; exact h) h))
/- skyway/runway.Safe -/
theorem B19_1_0_ok (n : Nat) (a0 : List TRunwayMove) (c6 : Int) (v61 : Int) (c60 : Int) (k0_0 : Int) (k0_1 : Int) (k0_2 : Int) (k0_3 : Int) (k0_4 : Int) (k0_5 : Int) (k0_6 : Int) (k0_7 : Int) (k0_8 : Int) (k0_9 : Int) (k0_10 : Int) (k0_11 : Int) (k0_12 : Int) (k0_13 : Int) (k0_14 : Int) (k0_15 : Int) (k200004_0 : Int) (k200004_1 : Int) (k200004_2 : Bool) (k200004_3 : Int) (w18 : Int) {t : (Int) ⊕ ((Int) ⊕ ρ19)} (R : AV → Mem → Prop) (N0 : St → Prop) (N1 : St → Prop) (hR : ∀ r : ρ19, t = (.inr (.inr r)) → ∀ u m, Ans ((AV.tup [(intA r.1), (intA r.2.1), (intA r.2.2)])) u m → R u m) (hN0 : ∀ y : Int, t = (.inr (.inl y)) → ∀ s' : St, Weak KK 93 0 s' (h19_1 (lstA TRunwayMove.E a0) c6 c6 c6 (lstA TRunwayMove.E a0) c60 y k0_0 k0_1 k0_2 k0_3 k0_4 k0_5 k0_6 k0_7 k0_8 k0_9 k0_10 k0_11 k0_12 k0_13 k0_14 k0_15 []) → N0 s') (hN1 : ∀ y : Int, t = (.inl y) → ∀ s' : St, Weak KK 93 0 s' (h19_1_0 (lstA TRunwayMove.E a0) c6 c6 c6 v61 y (lstA TRunwayMove.E a0) c60 v61 k0_0 k0_1 k0_2 k0_3 k0_4 k0_5 k0_6 k0_7 k0_8 k0_9 k0_10 k0_11 k0_12 k0_13 k0_14 k0_15 k200004_0 k200004_1 k200004_2 k200004_3 []) → N1 s') : S19_1_0 n a0 c6 v61 c60 k0_0 k0_1 k0_2 k0_3 k0_4 k0_5 k0_6 k0_7 k0_8 k0_9 k0_10 k0_11 k0_12 k0_13 k0_14 k0_15 k200004_0 k200004_1 k200004_2 k200004_3 w18 = some t → B19_1_0 (lstA TRunwayMove.E a0) c6 c6 c6 v61 w18 (lstA TRunwayMove.E a0) c60 v61 k0_0 k0_1 k0_2 k0_3 k0_4 k0_5 k0_6 k0_7 k0_8 k0_9 k0_10 k0_11 k0_12 k0_13 k0_14 k0_15 k200004_0 k200004_1 k200004_2 k200004_3 [] R N0 N1 := by
  unfold S19_1_0 B19_1_0
  refine imp (opP_of (show _ = some ((intA (a0.length : Int)), []) from rfl)) ?_
  refine imp ex_i64_b ?_
  refine cond_b (fun _ => ?_) (fun _ => ?_)
  · refine bind_b fun x33 h33 => ?_
    refine imp (opP_of (show _ = some ((AV.ept [(intA x33.Time), (intA x33.Wake), (boolA x33.Departs), (intA x33.End)] 0), []) from (idx_lst (E := TRunwayMove.E) rfl h33))) ?_
    refine imp (opP_of (show _ = some ((AV.ept [(intA x33.Time), (intA x33.Wake), (boolA x33.Departs), (intA x33.End)] 0), []) from rfl)) ?_
    refine imp (opP_of (show _ = some ((intA x33.Time), []) from rfl)) ?_
    refine imp ex_i64_b ?_
    refine bind_b fun x34 h34 => ?_
    refine imp (opP_of (show _ = some ((AV.ept [(intA x34.Time), (intA x34.Wake), (boolA x34.Departs), (intA x34.End)] 0), []) from (idx_lst (E := TRunwayMove.E) rfl h34))) ?_
    refine imp (opP_of (show _ = some ((AV.agg [(intA x34.Time), (intA x34.Wake), (boolA x34.Departs), (intA x34.End)]), []) from rfl)) ?_
    refine imp exA4_b ?_
    refine imp ex_i64_b ?_
    refine imp ex_i64_b ?_
    refine imp exB_b ?_
    refine imp ex_i64_b ?_
    refine bind_b fun x37 h37 => ?_
    refine imp (callQ_says (sg45 h37)) ?_
    refine imp ex_i64_b ?_
    refine cond_b (fun _ => ?_) (fun _ => ?_)
    · exact fun hg => retN rfl (hR _ (Option.some.inj hg).symm) (fzL_cons (fz_sc _ _) (fzL_cons (fz_sc _ _) (fzL_cons (fz_sc _ _) fzL_nil)))
    · exact fun hg => hN1 _ (Option.some.inj hg).symm _ (weak_mem [(0, 0), (200004, 200004)] rfl rfl rfl (okW_cons (ent_lst (E := TRunwayMove.E) _ false) (okW_cons (.inl (leV_refl _)) (okW_cons (.inl (leV_refl _)) (okW_cons (.inl (leV_refl _)) (okW_cons (.inl (leV_refl _)) (okW_cons (.inl (leV_refl _)) (okW_cons (.inl (leV_refl _)) (okW_cons (.inl (leV_refl _)) (okW_cons (ent_lst (E := TRunwayMove.E) _ false) (okW_cons (.inl (leV_refl _)) (okW_cons (.inl (leV_refl _)) okW_nil))))))))))) (okB_cons (okB_cells (cs := [(intA k0_0), (intA k0_1), (intA k0_2), (intA k0_3), (intA k0_4), (intA k0_5), (intA k0_6), (intA k0_7), (intA k0_8), (intA k0_9), (intA k0_10), (intA k0_11), (intA k0_12), (intA k0_13), (intA k0_14), (intA k0_15)]) (ty := 24) rfl (show mget _ 0 = _ from (by first | rfl | (simp (disch := first | decide | assumption) only [mpushs_nil, mpushs_cons, mget_hd, mget_tl, mget_appW_o, mget_appW_n, mget_appW_e])))) (okB_cons (okB_cells (cs := [(intA k200004_0), (intA k200004_1), (boolA k200004_2), (intA k200004_3)]) (ty := 52) rfl (show mget _ 200004 = _ from (by first | rfl | (simp (disch := first | decide | assumption) only [mpushs_nil, mpushs_cons, mget_hd, mget_tl, mget_appW_o, mget_appW_n, mget_appW_e])))) okB_nil')))
  · exact fun hg => hN0 _ (Option.some.inj hg).symm _ (weak_mem [(0, 0)] rfl rfl rfl (okW_cons (ent_lst (E := TRunwayMove.E) _ false) (okW_cons (.inl (leV_refl _)) (okW_cons (.inl (leV_refl _)) (okW_cons (.inl (leV_refl _)) (okW_cons (.inl (leV_refl _)) (okW_cons (ent_lst (E := TRunwayMove.E) _ false) (okW_cons (.inl (leV_refl _)) (okW_cons (.inl (leV_refl _)) okW_nil)))))))) (okB_cons (okB_cells (cs := [(intA k0_0), (intA k0_1), (intA k0_2), (intA k0_3), (intA k0_4), (intA k0_5), (intA k0_6), (intA k0_7), (intA k0_8), (intA k0_9), (intA k0_10), (intA k0_11), (intA k0_12), (intA k0_13), (intA k0_14), (intA k0_15)]) (ty := 24) rfl (show mget _ 0 = _ from (by first | rfl | (simp (disch := first | decide | assumption) only [mpushs_nil, mpushs_cons, mget_hd, mget_tl, mget_appW_o, mget_appW_n, mget_appW_e])))) okB_nil'))
theorem L19_1_0_ok (n : Nat) (a0 : List TRunwayMove) (c6 : Int) (v61 : Int) (c60 : Int) (k0_0 : Int) (k0_1 : Int) (k0_2 : Int) (k0_3 : Int) (k0_4 : Int) (k0_5 : Int) (k0_6 : Int) (k0_7 : Int) (k0_8 : Int) (k0_9 : Int) (k0_10 : Int) (k0_11 : Int) (k0_12 : Int) (k0_13 : Int) (k0_14 : Int) (k0_15 : Int) (k200004_0 : Int) (k200004_1 : Int) (k200004_2 : Bool) (k200004_3 : Int) {t : ((Int) ⊕ ρ19)} (R : AV → Mem → Prop) (N0 : St → Prop) (hR : ∀ r : ρ19, t = (.inr r) → ∀ u m, Ans ((AV.tup [(intA r.1), (intA r.2.1), (intA r.2.2)])) u m → R u m) (hN0 : ∀ y : Int, t = (.inl y) → ∀ s' : St, Weak KK 93 0 s' (h19_1 (lstA TRunwayMove.E a0) c6 c6 c6 (lstA TRunwayMove.E a0) c60 y k0_0 k0_1 k0_2 k0_3 k0_4 k0_5 k0_6 k0_7 k0_8 k0_9 k0_10 k0_11 k0_12 k0_13 k0_14 k0_15 []) → N0 s') (k : Nat) (x : Int) (hx : iterO (fun y : Int => S19_1_0 n a0 c6 v61 c60 k0_0 k0_1 k0_2 k0_3 k0_4 k0_5 k0_6 k0_7 k0_8 k0_9 k0_10 k0_11 k0_12 k0_13 k0_14 k0_15 k200004_0 k200004_1 k200004_2 k200004_3 y) k x = some t) {s : St} (hw : Weak KK 93 0 s (h19_1_0 (lstA TRunwayMove.E a0) c6 c6 c6 v61 x (lstA TRunwayMove.E a0) c60 v61 k0_0 k0_1 k0_2 k0_3 k0_4 k0_5 k0_6 k0_7 k0_8 k0_9 k0_10 k0_11 k0_12 k0_13 k0_14 k0_15 k200004_0 k200004_1 k200004_2 k200004_3 [])) : Tri Try.prog KK 93 0 (.loop c19_1_0) s (q19_1_0 R N0) :=
  L19_1_0 R N0 (σ := Nat × (Int)) (fun z => iterO (fun y : Int => S19_1_0 n a0 c6 v61 c60 k0_0 k0_1 k0_2 k0_3 k0_4 k0_5 k0_6 k0_7 k0_8 k0_9 k0_10 k0_11 k0_12 k0_13 k0_14 k0_15 k200004_0 k200004_1 k200004_2 k200004_3 y) z.1 z.2 = some t) (fun z => (lstA TRunwayMove.E a0)) (fun z => c6) (fun z => c6) (fun z => c6) (fun z => v61) (fun z => z.2) (fun z => (lstA TRunwayMove.E a0)) (fun z => c60) (fun z => v61) (fun z => k0_0) (fun z => k0_1) (fun z => k0_2) (fun z => k0_3) (fun z => k0_4) (fun z => k0_5) (fun z => k0_6) (fun z => k0_7) (fun z => k0_8) (fun z => k0_9) (fun z => k0_10) (fun z => k0_11) (fun z => k0_12) (fun z => k0_13) (fun z => k0_14) (fun z => k0_15) (fun z => k200004_0) (fun z => k200004_1) (fun z => k200004_2) (fun z => k200004_3) (fun z => []) (fun z => z.1) (by
    rintro ⟨k, y⟩ h
    cases k with
    | zero => exact (iterO_zero h).elim
    | succ k =>
      obtain ⟨u, h1, h2, h3⟩ := iterO_elim h
      exact B19_1_0_ok n a0 c6 v61 c60 k0_0 k0_1 k0_2 k0_3 k0_4 k0_5 k0_6 k0_7 k0_8 k0_9 k0_10 k0_11 k0_12 k0_13 k0_14 k0_15 k200004_0 k200004_1 k200004_2 k200004_3 y R N0 _ (fun r e => hR r (h3 _ e).symm) (fun y' e => hN0 y' (h3 _ e).symm) (fun y' e s' hw => ⟨(k, y'), h2 _ e, Nat.lt_succ_self k, hw⟩) h1) (k, x) hx hw
theorem B19_1_ok (n : Nat) (a0 : List TRunwayMove) (c6 : Int) (c60 : Int) (k0_0 : Int) (k0_1 : Int) (k0_2 : Int) (k0_3 : Int) (k0_4 : Int) (k0_5 : Int) (k0_6 : Int) (k0_7 : Int) (k0_8 : Int) (k0_9 : Int) (k0_10 : Int) (k0_11 : Int) (k0_12 : Int) (k0_13 : Int) (k0_14 : Int) (k0_15 : Int) (v61 : Int) {t : (Int) ⊕ ρ19} (R : AV → Mem → Prop) (N0 : St → Prop) (hR : ∀ r : ρ19, t = (.inr r) → ∀ u m, Ans ((AV.tup [(intA r.1), (intA r.2.1), (intA r.2.2)])) u m → R u m) (hN0 : ∀ y : Int, t = (.inl y) → ∀ s' : St, Weak KK 93 0 s' (h19_1 (lstA TRunwayMove.E a0) c6 c6 c6 (lstA TRunwayMove.E a0) c60 y k0_0 k0_1 k0_2 k0_3 k0_4 k0_5 k0_6 k0_7 k0_8 k0_9 k0_10 k0_11 k0_12 k0_13 k0_14 k0_15 []) → N0 s') : S19_1 n a0 c6 c60 k0_0 k0_1 k0_2 k0_3 k0_4 k0_5 k0_6 k0_7 k0_8 k0_9 k0_10 k0_11 k0_12 k0_13 k0_14 k0_15 v61 = some t → B19_1 (lstA TRunwayMove.E a0) c6 c6 c6 (lstA TRunwayMove.E a0) c60 v61 k0_0 k0_1 k0_2 k0_3 k0_4 k0_5 k0_6 k0_7 k0_8 k0_9 k0_10 k0_11 k0_12 k0_13 k0_14 k0_15 [] R N0 := by
  unfold S19_1 B19_1
  refine cond_b (fun _ => ?_) (fun _ => ?_)
  · refine bind_b fun x32 h32 => ?_
    refine imp (opP_of (show _ = some ((AV.ept [(intA x32.Time), (intA x32.Wake), (boolA x32.Departs), (intA x32.End)] 0), []) from (idx_lst (E := TRunwayMove.E) rfl h32))) ?_
    refine imp (opP_of (show _ = some ((AV.agg [(intA x32.Time), (intA x32.Wake), (boolA x32.Departs), (intA x32.End)]), []) from rfl)) ?_
    refine imp exA4_b ?_
    refine imp ex_i64_b ?_
    refine imp ex_i64_b ?_
    refine imp exB_b ?_
    refine imp ex_i64_b ?_
    exact fun hg => L19_1_0_ok n a0 c6 v61 c60 k0_0 k0_1 k0_2 k0_3 k0_4 k0_5 k0_6 k0_7 k0_8 k0_9 k0_10 k0_11 k0_12 k0_13 k0_14 k0_15 x32.Time x32.Wake x32.Departs x32.End R N0 hR hN0 n _ hg (weak_mem [(0, 0), (200004, 200004)] rfl rfl rfl (okW_cons (ent_lst (E := TRunwayMove.E) _ false) (okW_cons (.inl (leV_refl _)) (okW_cons (.inl (leV_refl _)) (okW_cons (.inl (leV_refl _)) (okW_cons (.inl (leV_refl _)) (okW_cons (.inl (leV_refl _)) (okW_cons (.inl (leV_refl _)) (okW_cons (.inl (leV_refl _)) (okW_cons (ent_lst (E := TRunwayMove.E) _ false) (okW_cons (.inl (leV_refl _)) (okW_cons (.inl (leV_refl _)) okW_nil))))))))))) (okB_cons (okB_cells (cs := [(intA k0_0), (intA k0_1), (intA k0_2), (intA k0_3), (intA k0_4), (intA k0_5), (intA k0_6), (intA k0_7), (intA k0_8), (intA k0_9), (intA k0_10), (intA k0_11), (intA k0_12), (intA k0_13), (intA k0_14), (intA k0_15)]) (ty := 24) rfl (show mget _ 0 = _ from (by first | rfl | (simp (disch := first | decide | assumption) only [mpushs_nil, mpushs_cons, mget_hd, mget_tl, mget_appW_o, mget_appW_n, mget_appW_e])))) (okB_cons (okB_cells (cs := [(intA x32.Time), (intA x32.Wake), (boolA x32.Departs), (intA x32.End)]) (ty := 52) rfl (show mget _ 200004 = _ from (by first | rfl | (simp (disch := first | decide | assumption) only [mpushs_nil, mpushs_cons, mget_hd, mget_tl, mget_appW_o, mget_appW_n, mget_appW_e])))) okB_nil')))
  · exact fun hg => retN rfl (hR _ (Option.some.inj hg).symm) (fzL_cons (fz_sc _ _) (fzL_cons (fz_sc _ _) (fzL_cons (fz_sc _ _) fzL_nil)))
theorem L19_1_ok (n : Nat) (a0 : List TRunwayMove) (c6 : Int) (c60 : Int) (k0_0 : Int) (k0_1 : Int) (k0_2 : Int) (k0_3 : Int) (k0_4 : Int) (k0_5 : Int) (k0_6 : Int) (k0_7 : Int) (k0_8 : Int) (k0_9 : Int) (k0_10 : Int) (k0_11 : Int) (k0_12 : Int) (k0_13 : Int) (k0_14 : Int) (k0_15 : Int) {t : ρ19} (R : AV → Mem → Prop) (hR : ∀ r : ρ19, t = r → ∀ u m, Ans ((AV.tup [(intA r.1), (intA r.2.1), (intA r.2.2)])) u m → R u m) (k : Nat) (x : Int) (hx : iterO (fun y : Int => S19_1 n a0 c6 c60 k0_0 k0_1 k0_2 k0_3 k0_4 k0_5 k0_6 k0_7 k0_8 k0_9 k0_10 k0_11 k0_12 k0_13 k0_14 k0_15 y) k x = some t) {s : St} (hw : Weak KK 93 0 s (h19_1 (lstA TRunwayMove.E a0) c6 c6 c6 (lstA TRunwayMove.E a0) c60 x k0_0 k0_1 k0_2 k0_3 k0_4 k0_5 k0_6 k0_7 k0_8 k0_9 k0_10 k0_11 k0_12 k0_13 k0_14 k0_15 [])) : Tri Try.prog KK 93 0 (.loop c19_1) s (q19_1 R ) :=
  L19_1 R  (σ := Nat × (Int)) (fun z => iterO (fun y : Int => S19_1 n a0 c6 c60 k0_0 k0_1 k0_2 k0_3 k0_4 k0_5 k0_6 k0_7 k0_8 k0_9 k0_10 k0_11 k0_12 k0_13 k0_14 k0_15 y) z.1 z.2 = some t) (fun z => (lstA TRunwayMove.E a0)) (fun z => c6) (fun z => c6) (fun z => c6) (fun z => (lstA TRunwayMove.E a0)) (fun z => c60) (fun z => z.2) (fun z => k0_0) (fun z => k0_1) (fun z => k0_2) (fun z => k0_3) (fun z => k0_4) (fun z => k0_5) (fun z => k0_6) (fun z => k0_7) (fun z => k0_8) (fun z => k0_9) (fun z => k0_10) (fun z => k0_11) (fun z => k0_12) (fun z => k0_13) (fun z => k0_14) (fun z => k0_15) (fun z => []) (fun z => z.1) (by
    rintro ⟨k, y⟩ h
    cases k with
    | zero => exact (iterO_zero h).elim
    | succ k =>
      obtain ⟨u, h1, h2, h3⟩ := iterO_elim h
      exact B19_1_ok n a0 c6 c60 k0_0 k0_1 k0_2 k0_3 k0_4 k0_5 k0_6 k0_7 k0_8 k0_9 k0_10 k0_11 k0_12 k0_13 k0_14 k0_15 y R  _ (fun r e => hR r (h3 _ e).symm)  (fun y' e s' hw => ⟨(k, y'), h2 _ e, Nat.lt_succ_self k, hw⟩) h1) (k, x) hx hw
theorem B19_0_ok (n : Nat) (a0 : List TRunwayMove) (a1 : List TRunwaySpan) (c6 : Int) (c35 : Int) (k0_0 : Int) (k0_1 : Int) (k0_2 : Int) (k0_3 : Int) (k0_4 : Int) (k0_5 : Int) (k0_6 : Int) (k0_7 : Int) (k0_8 : Int) (k0_9 : Int) (k0_10 : Int) (k0_11 : Int) (k0_12 : Int) (k0_13 : Int) (k0_14 : Int) (k0_15 : Int) (v36 : Int) {t : (Int) ⊕ ρ19} (R : AV → Mem → Prop) (N0 : St → Prop) (hR : ∀ r : ρ19, t = (.inr r) → ∀ u m, Ans ((AV.tup [(intA r.1), (intA r.2.1), (intA r.2.2)])) u m → R u m) (hN0 : ∀ y : Int, t = (.inl y) → ∀ s' : St, Weak KK 93 0 s' (h19_0 (lstA TRunwayMove.E a0) (lstA TRunwaySpan.E a1) c6 c6 c6 (lstA TRunwayMove.E a0) c35 y k0_0 k0_1 k0_2 k0_3 k0_4 k0_5 k0_6 k0_7 k0_8 k0_9 k0_10 k0_11 k0_12 k0_13 k0_14 k0_15 []) → N0 s') : S19_0 n a0 a1 c6 c35 k0_0 k0_1 k0_2 k0_3 k0_4 k0_5 k0_6 k0_7 k0_8 k0_9 k0_10 k0_11 k0_12 k0_13 k0_14 k0_15 v36 = some t → B19_0 (lstA TRunwayMove.E a0) (lstA TRunwaySpan.E a1) c6 c6 c6 (lstA TRunwayMove.E a0) c35 v36 k0_0 k0_1 k0_2 k0_3 k0_4 k0_5 k0_6 k0_7 k0_8 k0_9 k0_10 k0_11 k0_12 k0_13 k0_14 k0_15 [] R N0 := by
  unfold S19_0 B19_0
  refine cond_b (fun _ => ?_) (fun _ => ?_)
  · refine bind_b fun x26 h26 => ?_
    refine imp (opP_of (show _ = some ((AV.ept [(intA x26.Time), (intA x26.Wake), (boolA x26.Departs), (intA x26.End)] 0), []) from (idx_lst (E := TRunwayMove.E) rfl h26))) ?_
    refine imp (opP_of (show _ = some ((AV.agg [(intA x26.Time), (intA x26.Wake), (boolA x26.Departs), (intA x26.End)]), []) from rfl)) ?_
    refine imp exA4_b ?_
    refine imp ex_i64_b ?_
    refine imp ex_i64_b ?_
    refine imp exB_b ?_
    refine imp ex_i64_b ?_
    refine bind_b fun x31 h31 => ?_
    refine imp (callQ_says (sg44 h31)) ?_
    refine imp exT2_b ?_
    refine imp ex_i64_b ?_
    refine imp exB_b ?_
    refine cond_b (fun _ => ?_) (fun _ => ?_)
    · exact fun hg => retN rfl (hR _ (Option.some.inj hg).symm) (fzL_cons (fz_sc _ _) (fzL_cons (fz_sc _ _) (fzL_cons (fz_sc _ _) fzL_nil)))
    · refine cond_b (fun _ => ?_) (fun _ => ?_)
      · exact fun hg => retN rfl (hR _ (Option.some.inj hg).symm) (fzL_cons (fz_sc _ _) (fzL_cons (fz_sc _ _) (fzL_cons (fz_sc _ _) fzL_nil)))
      · exact fun hg => hN0 _ (Option.some.inj hg).symm _ (weak_mem [(0, 0)] rfl rfl rfl (okW_cons (ent_lst (E := TRunwayMove.E) _ false) (okW_cons (ent_lst (E := TRunwaySpan.E) _ false) (okW_cons (.inl (leV_refl _)) (okW_cons (.inl (leV_refl _)) (okW_cons (.inl (leV_refl _)) (okW_cons (.inl (leV_refl _)) (okW_cons (ent_lst (E := TRunwayMove.E) _ false) (okW_cons (.inl (leV_refl _)) (okW_cons (.inl (leV_refl _)) okW_nil))))))))) (okB_cons (okB_cells (cs := [(intA k0_0), (intA k0_1), (intA k0_2), (intA k0_3), (intA k0_4), (intA k0_5), (intA k0_6), (intA k0_7), (intA k0_8), (intA k0_9), (intA k0_10), (intA k0_11), (intA k0_12), (intA k0_13), (intA k0_14), (intA k0_15)]) (ty := 24) rfl (show mget _ 0 = _ from (by first | rfl | (simp (disch := first | decide | assumption) only [mpushs_nil, mpushs_cons, mget_hd, mget_tl, mget_appW_o, mget_appW_n, mget_appW_e])))) okB_nil'))
  · refine imp (opP_of (show _ = some ((intA (a0.length : Int)), []) from rfl)) ?_
    refine imp ex_i64_b ?_
    refine mapInr_b fun t0 e0 => ?_
    exact fun hg => L19_1_ok n a0 c6 (a0.length : Int) k0_0 k0_1 k0_2 k0_3 k0_4 k0_5 k0_6 k0_7 k0_8 k0_9 k0_10 k0_11 k0_12 k0_13 k0_14 k0_15 R  (fun r e => hR r (e0.trans (congrArg Sum.inr e))) n _ hg (weak_mem [(0, 0)] rfl rfl rfl (okW_cons (ent_lst (E := TRunwayMove.E) _ false) (okW_cons (.inl (leV_refl _)) (okW_cons (.inl (leV_refl _)) (okW_cons (.inl (leV_refl _)) (okW_cons (.inl (leV_refl _)) (okW_cons (ent_lst (E := TRunwayMove.E) _ false) (okW_cons (.inl (leV_refl _)) (okW_cons (.inl (leV_refl _)) okW_nil)))))))) (okB_cons (okB_cells (cs := [(intA k0_0), (intA k0_1), (intA k0_2), (intA k0_3), (intA k0_4), (intA k0_5), (intA k0_6), (intA k0_7), (intA k0_8), (intA k0_9), (intA k0_10), (intA k0_11), (intA k0_12), (intA k0_13), (intA k0_14), (intA k0_15)]) (ty := 24) rfl (show mget _ 0 = _ from (by first | rfl | (simp (disch := first | decide | assumption) only [mpushs_nil, mpushs_cons, mget_hd, mget_tl, mget_appW_o, mget_appW_n, mget_appW_e])))) okB_nil'))
theorem L19_0_ok (n : Nat) (a0 : List TRunwayMove) (a1 : List TRunwaySpan) (c6 : Int) (c35 : Int) (k0_0 : Int) (k0_1 : Int) (k0_2 : Int) (k0_3 : Int) (k0_4 : Int) (k0_5 : Int) (k0_6 : Int) (k0_7 : Int) (k0_8 : Int) (k0_9 : Int) (k0_10 : Int) (k0_11 : Int) (k0_12 : Int) (k0_13 : Int) (k0_14 : Int) (k0_15 : Int) {t : ρ19} (R : AV → Mem → Prop) (hR : ∀ r : ρ19, t = r → ∀ u m, Ans ((AV.tup [(intA r.1), (intA r.2.1), (intA r.2.2)])) u m → R u m) (k : Nat) (x : Int) (hx : iterO (fun y : Int => S19_0 n a0 a1 c6 c35 k0_0 k0_1 k0_2 k0_3 k0_4 k0_5 k0_6 k0_7 k0_8 k0_9 k0_10 k0_11 k0_12 k0_13 k0_14 k0_15 y) k x = some t) {s : St} (hw : Weak KK 93 0 s (h19_0 (lstA TRunwayMove.E a0) (lstA TRunwaySpan.E a1) c6 c6 c6 (lstA TRunwayMove.E a0) c35 x k0_0 k0_1 k0_2 k0_3 k0_4 k0_5 k0_6 k0_7 k0_8 k0_9 k0_10 k0_11 k0_12 k0_13 k0_14 k0_15 [])) : Tri Try.prog KK 93 0 (.loop c19_0) s (q19_0 R ) :=
  L19_0 R  (σ := Nat × (Int)) (fun z => iterO (fun y : Int => S19_0 n a0 a1 c6 c35 k0_0 k0_1 k0_2 k0_3 k0_4 k0_5 k0_6 k0_7 k0_8 k0_9 k0_10 k0_11 k0_12 k0_13 k0_14 k0_15 y) z.1 z.2 = some t) (fun z => (lstA TRunwayMove.E a0)) (fun z => (lstA TRunwaySpan.E a1)) (fun z => c6) (fun z => c6) (fun z => c6) (fun z => (lstA TRunwayMove.E a0)) (fun z => c35) (fun z => z.2) (fun z => k0_0) (fun z => k0_1) (fun z => k0_2) (fun z => k0_3) (fun z => k0_4) (fun z => k0_5) (fun z => k0_6) (fun z => k0_7) (fun z => k0_8) (fun z => k0_9) (fun z => k0_10) (fun z => k0_11) (fun z => k0_12) (fun z => k0_13) (fun z => k0_14) (fun z => k0_15) (fun z => []) (fun z => z.1) (by
    rintro ⟨k, y⟩ h
    cases k with
    | zero => exact (iterO_zero h).elim
    | succ k =>
      obtain ⟨u, h1, h2, h3⟩ := iterO_elim h
      exact B19_0_ok n a0 a1 c6 c35 k0_0 k0_1 k0_2 k0_3 k0_4 k0_5 k0_6 k0_7 k0_8 k0_9 k0_10 k0_11 k0_12 k0_13 k0_14 k0_15 y R  _ (fun r e => hR r (h3 _ e).symm)  (fun y' e s' hw => ⟨(k, y'), h2 _ e, Nat.lt_succ_self k, hw⟩) h1) (k, x) hx hw
theorem g19_ok (n : Nat) (a0 : List TRunwayMove) (a1 : List TRunwaySpan) (a2 : TWakeTable) {t : ρ19} (R : AV → Mem → Prop) (hR : ∀ r : ρ19, t = r → ∀ u m, Ans ((AV.tup [(intA r.1), (intA r.2.1), (intA r.2.2)])) u m → R u m) : g19 n a0 a1 a2 = some t → F19 (lstA TRunwayMove.E a0) (lstA TRunwaySpan.E a1) a2.c0_0 a2.c0_1 a2.c0_2 a2.c0_3 a2.c1_0 a2.c1_1 a2.c1_2 a2.c1_3 a2.c2_0 a2.c2_1 a2.c2_2 a2.c2_3 a2.c3_0 a2.c3_1 a2.c3_2 a2.c3_3 R := by
  unfold g19 F19
  refine bind_b fun x6 h6 => ?_
  refine imp (callQ_says (sg40 h6)) ?_
  refine imp ex_i64_b ?_
  refine cond_b (fun _ => ?_) (fun _ => ?_)
  · exact fun hg => retN rfl (hR _ (Option.some.inj hg).symm) (fzL_cons (fz_sc _ _) (fzL_cons (fz_sc _ _) (fzL_cons (fz_sc _ _) fzL_nil)))
  · refine bind_b fun x16 h16 => ?_
    refine imp (callQ_says (sg41 h16)) ?_
    refine imp ex_i64_b ?_
    refine cond_b (fun _ => ?_) (fun _ => ?_)
    · exact fun hg => retN rfl (hR _ (Option.some.inj hg).symm) (fzL_cons (fz_sc _ _) (fzL_cons (fz_sc _ _) (fzL_cons (fz_sc _ _) fzL_nil)))
    · refine bind_b fun x25 h25 => ?_
      refine imp (callQ_says (sg36 h25)) ?_
      refine imp ex_i64_b ?_
      refine cond_b (fun _ => ?_) (fun _ => ?_)
      · exact fun hg => retN rfl (hR _ (Option.some.inj hg).symm) (fzL_cons (fz_sc _ _) (fzL_cons (fz_sc _ _) (fzL_cons (fz_sc _ _) fzL_nil)))
      · refine imp (opP_of (show _ = some ((intA (a0.length : Int)), []) from rfl)) ?_
        refine imp ex_i64_b ?_
        exact fun hg => L19_0_ok n a0 a1 (0) (a0.length : Int) a2.c0_0 a2.c0_1 a2.c0_2 a2.c0_3 a2.c1_0 a2.c1_1 a2.c1_2 a2.c1_3 a2.c2_0 a2.c2_1 a2.c2_2 a2.c2_3 a2.c3_0 a2.c3_1 a2.c3_2 a2.c3_3 R  hR n _ hg (weak_mem [(0, 0)] rfl rfl rfl (okW_cons (ent_lst (E := TRunwayMove.E) _ false) (okW_cons (ent_lst (E := TRunwaySpan.E) _ false) (okW_cons (.inl (leV_refl _)) (okW_cons (.inl (leV_refl _)) (okW_cons (.inl (leV_refl _)) (okW_cons (.inl (leV_refl _)) (okW_cons (ent_lst (E := TRunwayMove.E) _ false) (okW_cons (.inl (leV_refl _)) (okW_cons (.inl (leV_refl _)) okW_nil))))))))) (okB_cons (okB_cells (cs := [(intA a2.c0_0), (intA a2.c0_1), (intA a2.c0_2), (intA a2.c0_3), (intA a2.c1_0), (intA a2.c1_1), (intA a2.c1_2), (intA a2.c1_3), (intA a2.c2_0), (intA a2.c2_1), (intA a2.c2_2), (intA a2.c2_3), (intA a2.c3_0), (intA a2.c3_1), (intA a2.c3_2), (intA a2.c3_3)]) (ty := 24) rfl (show mget _ 0 = _ from (by first | rfl | (simp (disch := first | decide | assumption) only [mpushs_nil, mpushs_cons, mget_hd, mget_tl, mget_appW_o, mget_appW_n, mget_appW_e])))) okB_nil'))
theorem sg19 {n : Nat} {a0 : List TRunwayMove} {a1 : List TRunwaySpan} {a2 : TWakeTable} {t : ρ19} (h : g19 n a0 a1 a2 = some t) : Says Try.prog KK.gl 19 [(lstA TRunwayMove.E a0), (lstA TRunwaySpan.E a1), (AV.agg [(intA a2.c0_0), (intA a2.c0_1), (intA a2.c0_2), (intA a2.c0_3), (intA a2.c1_0), (intA a2.c1_1), (intA a2.c1_2), (intA a2.c1_3), (intA a2.c2_0), (intA a2.c2_1), (intA a2.c2_2), (intA a2.c2_3), (intA a2.c3_0), (intA a2.c3_1), (intA a2.c3_2), (intA a2.c3_3)])] ((AV.tup [(intA t.1), (intA t.2.1), (intA t.2.2)])) :=
  says_of_own (by first | rfl | simp [cleans, clean, encs_clean, En.cln]) (by first | rfl | simp [cleans, clean, encs_clean, En.cln]) (F19_own (lstA TRunwayMove.E a0) (lstA TRunwaySpan.E a1) a2.c0_0 a2.c0_1 a2.c0_2 a2.c0_3 a2.c1_0 a2.c1_1 a2.c1_2 a2.c1_3 a2.c2_0 a2.c2_1 a2.c2_2 a2.c2_3 a2.c3_0 a2.c3_1 a2.c3_2 a2.c3_3 _ (g19_ok n a0 a1 a2 (Ans ((AV.tup [(intA t.1), (intA t.2.1), (intA t.2.2)]))) (fun r e u m h => by rw [e]; exact h) h))
end Go.Proofs.Ytfmodgffhbljoaa
