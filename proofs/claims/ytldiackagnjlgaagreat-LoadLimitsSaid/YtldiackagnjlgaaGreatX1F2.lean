/- Functions of the program as conditions on their answers; printed by wip/Gen.lean.txt. -/
import Derived.Test.YtldiackagnjlgaaGreatX1T
set_option linter.unusedVariables false
set_option maxRecDepth 100000
set_option maxHeartbeats 4000000
namespace Go.Proofs.YtldiackagnjlgaaGreat
/- skyway/polygon.enters -/
noncomputable def c75 : Code := ((Tryz.f75).body).getD .skip
noncomputable def q75 (R : AV → Mem → Prop) : AExit → St → Prop := retQ Tryz.prog Tryz.f75 R
noncomputable def c75_0 : Code := loopB c75 0
noncomputable def q75_0 (R : AV → Mem → Prop) : AExit → St → Prop := contW Tryz.prog KK 127 0 c75 0 (q75 R)
noncomputable def qq75_0 (R : AV → Mem → Prop) (N0 : St → Prop) : AExit → St → Prop := thenQ N0 (q75_0 R)
def h75_0 (t0 : AV) (t1 : AV) (t4 : Bool) (t17 : Int) (t18 : Int) (m : Mem) : St := ⟨[(0, t0), (1, t1), (4, (boolA t4)), (17, (intA t17)), (18, (intA t18))], m, 100000⟩
noncomputable def c75_0_0 : Code := loopB c75_0 0
noncomputable def q75_0_0 (R : AV → Mem → Prop) (N0 : St → Prop) : AExit → St → Prop := contW Tryz.prog KK 127 0 c75_0 0 (qq75_0 R N0)
noncomputable def qq75_0_0 (R : AV → Mem → Prop) (N0 : St → Prop) (N1 : St → Prop) : AExit → St → Prop := thenQ N1 (q75_0_0 R N0)
def h75_0_0 (t0 : AV) (t1 : AV) (t4 : Bool) (t8 : AV) (t17 : Int) (t18 : Int) (t31 : AV) (t32 : Int) (t33 : Int) (m : Mem) : St := ⟨[(0, t0), (1, t1), (4, (boolA t4)), (6, (AV.ptr 100010 0)), (7, (AV.ptr 100011 0)), (8, t8), (17, (intA t17)), (18, (intA t18)), (31, t31), (32, (intA t32)), (33, (intA t33))], m, 200000⟩
noncomputable def c75_0_1 : Code := loopB c75_0 1
noncomputable def q75_0_1 (R : AV → Mem → Prop) (N0 : St → Prop) : AExit → St → Prop := contW Tryz.prog KK 127 0 c75_0 1 (qq75_0 R N0)
noncomputable def qq75_0_1 (R : AV → Mem → Prop) (N0 : St → Prop) (N1 : St → Prop) : AExit → St → Prop := thenQ N1 (q75_0_1 R N0)
def h75_0_1 (t0 : AV) (t1 : AV) (t4 : Bool) (t8 : AV) (t11 : Int) (t17 : Int) (t18 : Int) (m : Mem) : St := ⟨[(0, t0), (1, t1), (4, (boolA t4)), (6, (AV.ptr 100010 0)), (7, (AV.ptr 100011 0)), (8, t8), (11, (intA t11)), (17, (intA t17)), (18, (intA t18))], m, 300000⟩
noncomputable def c75_0_1_0 : Code := loopB c75_0_1 0
noncomputable def q75_0_1_0 (R : AV → Mem → Prop) (N0 : St → Prop) (N1 : St → Prop) : AExit → St → Prop := contW Tryz.prog KK 127 0 c75_0_1 0 (qq75_0_1 R N0 N1)
noncomputable def qq75_0_1_0 (R : AV → Mem → Prop) (N0 : St → Prop) (N1 : St → Prop) (N2 : St → Prop) : AExit → St → Prop := thenQ N2 (q75_0_1_0 R N0 N1)
def h75_0_1_0 (t0 : AV) (t1 : AV) (t4 : Bool) (t8 : AV) (t11 : Int) (t17 : Int) (t18 : Int) (t100 : Int) (t101 : Int) (m : Mem) : St := ⟨[(0, t0), (1, t1), (4, (boolA t4)), (6, (AV.ptr 100010 0)), (7, (AV.ptr 100011 0)), (8, t8), (11, (intA t11)), (12, (AV.ptr 300041 0)), (17, (intA t17)), (18, (intA t18)), (100, (intA t100)), (101, (intA t101))], m, 400000⟩
noncomputable def B75_0 (t0 : AV) (t1 : AV) (t4 : Bool) (t17 : Int) (t18 : Int) (m : Mem) (R : AV → Mem → Prop) (N0 : St → Prop) : Prop :=
bif (decide (t18 < t17)) then (
opM (idxS 2 t0 (intA t18)) fun v2 d2 =>
opM (ldA (look' (mpushs m d2) (topId v2 ++ ([]))) 2 v2) fun v3 d3 =>
exA2 v3 fun c4 c5 =>
ex_i64 c4 fun z6 =>
ex_i64 c5 fun z7 =>
callF Tryz.prog KK.gl (mpushs (mpushs m d2) d3) 100009 70 [t0, (intA t18)] fun v8 d8 ft8 =>
exA2 v8 fun c9 c10 =>
ex_i64 c9 fun z11 =>
ex_i64 c10 fun z12 =>
storeW Tryz.prog (look' ((100011, some ⟨[(intA (0)), (intA (0))], 60⟩) :: (100010, some ⟨[(intA (0)), (intA (0))], 60⟩) :: (mpushs (mpushs (mpushs m d2) d3) d8)) (topId (AV.ptr 100010 0) ++ (topId (AV.agg [(intA z6), (intA z7)]) ++ ([])))) 60 (AV.ptr 100010 0) (AV.agg [(intA z6), (intA z7)]) fun v13 d13 =>
storeW Tryz.prog (look' (mpushs ((100011, some ⟨[(intA (0)), (intA (0))], 60⟩) :: (100010, some ⟨[(intA (0)), (intA (0))], 60⟩) :: (mpushs (mpushs (mpushs m d2) d3) d8)) d13) (topId (AV.ptr 100011 0) ++ (topId (AV.agg [(intA z11), (intA z12)]) ++ ([])))) 60 (AV.ptr 100011 0) (AV.agg [(intA z11), (intA z12)]) fun v14 d14 =>
chk (confOk [0, 0, 3, 7, 0, 0, 48, 0, 0, 511, 1023] [⟨[], []⟩, ⟨[], []⟩, ⟨d2, []⟩, ⟨d3, (topId v2 ++ ([]))⟩, ⟨[], []⟩, ⟨[], []⟩, ⟨d8, ft8⟩, ⟨[(100010, some ⟨[(intA (0)), (intA (0))], 60⟩)], []⟩, ⟨[(100011, some ⟨[(intA (0)), (intA (0))], 60⟩)], []⟩, ⟨d13, (topId (AV.ptr 100010 0) ++ (topId (AV.agg [(intA z6), (intA z7)]) ++ ([])))⟩, ⟨d14, (topId (AV.ptr 100011 0) ++ (topId (AV.agg [(intA z11), (intA z12)]) ++ ([])))⟩]) (opP (ldA (mget (mpushs (mpushs ((100011, some ⟨[(intA (0)), (intA (0))], 60⟩) :: (100010, some ⟨[(intA (0)), (intA (0))], 60⟩) :: (mpushs (mpushs (mpushs m d2) d3) d8)) d13) d14)) 2 (AV.ptr 100010 0)) fun v15 =>
exA2 v15 fun c16 c17 =>
ex_i64 c16 fun z18 =>
ex_i64 c17 fun z19 =>
opP (ldA (mget (mpushs (mpushs ((100011, some ⟨[(intA (0)), (intA (0))], 60⟩) :: (100010, some ⟨[(intA (0)), (intA (0))], 60⟩) :: (mpushs (mpushs (mpushs m d2) d3) d8)) d13) d14)) 2 (AV.ptr 100011 0)) fun v20 =>
exA2 v20 fun c21 c22 =>
ex_i64 c21 fun z23 =>
ex_i64 c22 fun z24 =>
opN (bsl 100016 60 2 2 [(intA (0)), (intA (0))] [(0, (AV.agg [(intA z18), (intA z19)])), (1, (AV.agg [(intA z23), (intA z24)]))]) (mpushs (mpushs ((100011, some ⟨[(intA (0)), (intA (0))], 60⟩) :: (100010, some ⟨[(intA (0)), (intA (0))], 60⟩) :: (mpushs (mpushs (mpushs m d2) d3) d8)) d13) d14) fun v25 m25 =>
opP (lenS t1) fun v26 =>
ex_i64 v26 fun z27 =>
Tri Tryz.prog KK 127 0 (.loop c75_0_0) ⟨[(0, t0), (1, t1), (4, (boolA t4)), (17, (intA t17)), (18, (intA t18)), (19, (boolA (decide (t18 < t17)))), (20, (intA t18)), (5, (intA t18)), (21, t0), (22, (intA t18)), (23, v2), (24, (AV.agg [(intA z6), (intA z7)])), (25, t0), (26, (intA t18)), (27, (AV.agg [(intA z11), (intA z12)])), (6, (AV.ptr 100010 0)), (7, (AV.ptr 100011 0)), (28, (AV.agg [(intA z18), (intA z19)])), (29, (AV.agg [(intA z23), (intA z24)])), (30, v25), (8, v25), (31, t1), (32, (intA z27)), (33, (intA (0)))], m25, 100021⟩ (q75_0_0 R N0))) else (
retL R m [some (boolA false)])
theorem B75_0_eq (t0 : AV) (t1 : AV) (t4 : Bool) (t17 : Int) (t18 : Int) (m : Mem) (R : AV → Mem → Prop) (N0 : St → Prop) : W Tryz.prog KK 127 0 c75_0 (h75_0 t0 t1 t4 t17 t18 m) (qq75_0 R N0) = B75_0 t0 t1 t4 t17 t18 m R N0 := by kernel_rfl
theorem L75_0 (R : AV → Mem → Prop) {σ : Type} (I : σ → Prop) (t0 : σ → AV) (t1 : σ → AV) (t4 : σ → Bool) (t17 : σ → Int) (t18 : σ → Int) (m : σ → Mem) (μ : σ → Nat) (step : ∀ x, I x → B75_0 (t0 x) (t1 x) (t4 x) (t17 x) (t18 x) (m x) R (fun s' => ∃ y, I y ∧ μ y < μ x ∧ Weak KK 127 0 s' (h75_0 (t0 y) (t1 y) (t4 y) (t17 y) (t18 y) (m y)))) (x : σ) (hx : I x) {s : St} (hw : Weak KK 127 0 s (h75_0 (t0 x) (t1 x) (t4 x) (t17 x) (t18 x) (m x))) : Tri Tryz.prog KK 127 0 (.loop c75_0) s (q75_0 R) :=
  Tri.weak hw (Tri.loops fol I (fun x => h75_0 (t0 x) (t1 x) (t4 x) (t17 x) (t18 x) (m x)) μ (fun x hx => (B75_0_eq (t0 x) (t1 x) (t4 x) (t17 x) (t18 x) (m x) R _).mpr (step x hx)) x hx)
noncomputable def B75_0_0 (t0 : AV) (t1 : AV) (t4 : Bool) (t8 : AV) (t17 : Int) (t18 : Int) (t31 : AV) (t32 : Int) (t33 : Int) (m : Mem) (R : AV → Mem → Prop) (N0 : St → Prop) (N1 : St → Prop) : Prop :=
bif (decide (t33 < t32)) then (
opP (idxS 2 t31 (intA t33)) fun v28 =>
opP (ldA (mget m) 2 v28) fun v29 =>
exA2 v29 fun c30 c31 =>
ex_i64 c30 fun z32 =>
ex_i64 c31 fun z33 =>
opP (ldA (mget ((200003, some ⟨[(intA z32), (intA z33)], 60⟩) :: (200003, some ⟨[(intA (0)), (intA (0))], 60⟩) :: m)) 2 (AV.ptr 100010 0)) fun v34 =>
exA2 v34 fun c35 c36 =>
ex_i64 c35 fun z37 =>
ex_i64 c36 fun z38 =>
opP (ldA (mget ((200003, some ⟨[(intA z32), (intA z33)], 60⟩) :: (200003, some ⟨[(intA (0)), (intA (0))], 60⟩) :: m)) 2 (AV.ptr 100011 0)) fun v39 =>
exA2 v39 fun c40 c41 =>
ex_i64 c40 fun z42 =>
ex_i64 c41 fun z43 =>
callQ Tryz.prog KK.gl ((200003, some ⟨[(intA z32), (intA z33)], 60⟩) :: (200003, some ⟨[(intA (0)), (intA (0))], 60⟩) :: m) 90 [(AV.agg [(intA z37), (intA z38)]), (AV.agg [(intA z42), (intA z43)]), (AV.agg [(intA z32), (intA z33)])] fun v44 =>
exB v44 fun b45 =>
bif b45 then (
opN (bsl 200074 60 2 1 [(intA (0)), (intA (0))] [(0, (AV.agg [(intA z32), (intA z33)]))]) ((200003, some ⟨[(intA z32), (intA z33)], 60⟩) :: (200003, some ⟨[(intA (0)), (intA (0))], 60⟩) :: m) fun v46 m46 =>
opN (app (mget m46) 60 2 16 [(intA (0)), (intA (0))] 200075 t8 v46) m46 fun v47 m47 =>
N1 ⟨[(0, t0), (1, t1), (4, (boolA t4)), (6, (AV.ptr 100010 0)), (7, (AV.ptr 100011 0)), (8, v47), (17, (intA t17)), (18, (intA t18)), (31, t31), (32, (intA t32)), (33, (intA (IntKind.wrap .i64 (t33 + (1))))), (34, (boolA (decide (t33 < t32)))), (35, v28), (36, (AV.agg [(intA z32), (intA z33)])), (10, (AV.ptr 200003 0)), (37, (AV.agg [(intA z37), (intA z38)])), (38, (AV.agg [(intA z42), (intA z43)])), (39, (AV.agg [(intA z32), (intA z33)])), (40, (boolA b45)), (41, t8), (42, (AV.agg [(intA z32), (intA z33)])), (43, v46), (44, v47), (45, (intA (IntKind.wrap .i64 (t33 + (1)))))], m47, 200079⟩) else (
N1 ⟨[(0, t0), (1, t1), (4, (boolA t4)), (6, (AV.ptr 100010 0)), (7, (AV.ptr 100011 0)), (8, t8), (17, (intA t17)), (18, (intA t18)), (31, t31), (32, (intA t32)), (33, (intA (IntKind.wrap .i64 (t33 + (1))))), (34, (boolA (decide (t33 < t32)))), (35, v28), (36, (AV.agg [(intA z32), (intA z33)])), (10, (AV.ptr 200003 0)), (37, (AV.agg [(intA z37), (intA z38)])), (38, (AV.agg [(intA z42), (intA z43)])), (39, (AV.agg [(intA z32), (intA z33)])), (40, (boolA b45)), (45, (intA (IntKind.wrap .i64 (t33 + (1)))))], ((200003, some ⟨[(intA z32), (intA z33)], 60⟩) :: (200003, some ⟨[(intA (0)), (intA (0))], 60⟩) :: m), 200074⟩)) else (
callW Tryz.prog KK.gl m 200003 91 [t8, (AV.fn 92 [(AV.ptr 100010 0)])] fun v48 m48 =>
exT0 v48 <|
Tri Tryz.prog KK 127 0 (.loop c75_0_1) ⟨[(0, t0), (1, t1), (4, (boolA t4)), (6, (AV.ptr 100010 0)), (7, (AV.ptr 100011 0)), (8, t8), (17, (intA t17)), (18, (intA t18)), (31, t31), (32, (intA t32)), (33, (intA t33)), (34, (boolA (decide (t33 < t32)))), (46, t8), (47, (AV.fn 92 [(AV.ptr 100010 0)])), (48, (AV.tup [])), (11, (intA (1)))], m48, 200068⟩ (q75_0_1 R N0))
theorem B75_0_0_eq (t0 : AV) (t1 : AV) (t4 : Bool) (t8 : AV) (t17 : Int) (t18 : Int) (t31 : AV) (t32 : Int) (t33 : Int) (m : Mem) (R : AV → Mem → Prop) (N0 : St → Prop) (N1 : St → Prop) : W Tryz.prog KK 127 0 c75_0_0 (h75_0_0 t0 t1 t4 t8 t17 t18 t31 t32 t33 m) (qq75_0_0 R N0 N1) = B75_0_0 t0 t1 t4 t8 t17 t18 t31 t32 t33 m R N0 N1 := by kernel_rfl
theorem L75_0_0 (R : AV → Mem → Prop) (N0 : St → Prop) {σ : Type} (I : σ → Prop) (t0 : σ → AV) (t1 : σ → AV) (t4 : σ → Bool) (t8 : σ → AV) (t17 : σ → Int) (t18 : σ → Int) (t31 : σ → AV) (t32 : σ → Int) (t33 : σ → Int) (m : σ → Mem) (μ : σ → Nat) (step : ∀ x, I x → B75_0_0 (t0 x) (t1 x) (t4 x) (t8 x) (t17 x) (t18 x) (t31 x) (t32 x) (t33 x) (m x) R N0 (fun s' => ∃ y, I y ∧ μ y < μ x ∧ Weak KK 127 0 s' (h75_0_0 (t0 y) (t1 y) (t4 y) (t8 y) (t17 y) (t18 y) (t31 y) (t32 y) (t33 y) (m y)))) (x : σ) (hx : I x) {s : St} (hw : Weak KK 127 0 s (h75_0_0 (t0 x) (t1 x) (t4 x) (t8 x) (t17 x) (t18 x) (t31 x) (t32 x) (t33 x) (m x))) : Tri Tryz.prog KK 127 0 (.loop c75_0_0) s (q75_0_0 R N0) :=
  Tri.weak hw (Tri.loops fol I (fun x => h75_0_0 (t0 x) (t1 x) (t4 x) (t8 x) (t17 x) (t18 x) (t31 x) (t32 x) (t33 x) (m x)) μ (fun x hx => (B75_0_0_eq (t0 x) (t1 x) (t4 x) (t8 x) (t17 x) (t18 x) (t31 x) (t32 x) (t33 x) (m x) R N0 _).mpr (step x hx)) x hx)
noncomputable def B75_0_1 (t0 : AV) (t1 : AV) (t4 : Bool) (t8 : AV) (t11 : Int) (t17 : Int) (t18 : Int) (m : Mem) (R : AV → Mem → Prop) (N0 : St → Prop) (N1 : St → Prop) : Prop :=
opP (lenS t8) fun v49 =>
ex_i64 v49 fun z50 =>
bif (decide (t11 < z50)) then (
opP (idxS 2 t8 (intA t11)) fun v51 =>
opP (ldA (mget m) 2 v51) fun v52 =>
exA2 v52 fun c53 c54 =>
ex_i64 c53 fun z55 =>
ex_i64 c54 fun z56 =>
opP (idxS 2 t8 (intA (IntKind.wrap .i64 (t11 - (1))))) fun v57 =>
opP (ldA (mget m) 2 v57) fun v58 =>
exA2 v58 fun c59 c60 =>
ex_i64 c59 fun z61 =>
ex_i64 c60 fun z62 =>
opP (opA Tryz.prog (.binOp .eql 60 (.tmp 0) (.tmp 1) 60) 4 [(AV.agg [(intA z55), (intA z56)]), (AV.agg [(intA z61), (intA z62)])] (mget m) 300013) fun v63 =>
exB v63 fun b64 =>
bif b64 then (
N1 ⟨[(0, t0), (1, t1), (4, (boolA t4)), (6, (AV.ptr 100010 0)), (7, (AV.ptr 100011 0)), (8, t8), (11, (intA (IntKind.wrap .i64 (t11 + (1))))), (17, (intA t17)), (18, (intA t18)), (49, (intA t11)), (50, t8), (51, (intA z50)), (52, (boolA (decide (t11 < z50)))), (55, t8), (56, (intA t11)), (57, v51), (58, (AV.agg [(intA z55), (intA z56)])), (59, t8), (60, (intA t11)), (61, (intA (IntKind.wrap .i64 (t11 - (1))))), (62, v57), (63, (AV.agg [(intA z61), (intA z62)])), (64, (boolA b64)), (53, (intA t11)), (54, (intA (IntKind.wrap .i64 (t11 + (1)))))], m, 300017⟩) else (
opM (idxS 2 t8 (intA t11)) fun v65 d65 =>
opM (fldO 0 v65) fun v66 d66 =>
opM (ldS (look' (mpushs (mpushs m d65) d66) (topId v66 ++ ([]))) v66) fun v67 d67 =>
ex_i64 v67 fun z68 =>
opM (idxS 2 t8 (intA (IntKind.wrap .i64 (t11 - (1))))) fun v69 d69 =>
opM (fldO 0 v69) fun v70 d70 =>
opM (ldS (look' (mpushs (mpushs (mpushs (mpushs (mpushs m d65) d66) d67) d69) d70) (topId v70 ++ ([]))) v70) fun v71 d71 =>
ex_i64 v71 fun z72 =>
opM (idxS 2 t8 (intA t11)) fun v73 d73 =>
opM (fldO 1 v73) fun v74 d74 =>
opM (ldS (look' (mpushs (mpushs (mpushs (mpushs (mpushs (mpushs (mpushs (mpushs m d65) d66) d67) d69) d70) d71) d73) d74) (topId v74 ++ ([]))) v74) fun v75 d75 =>
ex_i64 v75 fun z76 =>
opM (idxS 2 t8 (intA (IntKind.wrap .i64 (t11 - (1))))) fun v77 d77 =>
opM (fldO 1 v77) fun v78 d78 =>
opM (ldS (look' (mpushs (mpushs (mpushs (mpushs (mpushs (mpushs (mpushs (mpushs (mpushs (mpushs (mpushs m d65) d66) d67) d69) d70) d71) d73) d74) d75) d77) d78) (topId v78 ++ ([]))) v78) fun v79 d79 =>
ex_i64 v79 fun z80 =>
opM (bld [(intA (0)), (intA (0))] [(0, 1), (1, 1)] [(0, (intA (IntKind.wrap .i64 (Int.tdiv (IntKind.wrap .i64 (z68 + z72)) (2))))), (1, (intA (IntKind.wrap .i64 (Int.tdiv (IntKind.wrap .i64 (z76 + z80)) (2)))))]) fun v81 d81 =>
storeW Tryz.prog (look' ((300041, some ⟨[(intA (0)), (intA (0))], 60⟩) :: (mpushs (mpushs (mpushs (mpushs (mpushs (mpushs (mpushs (mpushs (mpushs (mpushs (mpushs (mpushs (mpushs m d65) d66) d67) d69) d70) d71) d73) d74) d75) d77) d78) d79) d81)) (topId (AV.ptr 300041 0) ++ (topId v81 ++ ([])))) 60 (AV.ptr 300041 0) v81 fun v82 d82 =>
chk (confOk [0, 0, 3, 7, 15, 0, 0, 64, 224, 480, 992, 2047, 4095, 0, 0, 24576, 57344, 122880, 0, 0, 524288, 1835008, 3932160, 8126464, 16769024, 33546240, 67108863, 0, 268435455] [⟨[], []⟩, ⟨[], []⟩, ⟨d65, []⟩, ⟨d66, []⟩, ⟨d67, (topId v66 ++ ([]))⟩, ⟨[], []⟩, ⟨[], []⟩, ⟨[], []⟩, ⟨d69, []⟩, ⟨d70, []⟩, ⟨d71, (topId v70 ++ ([]))⟩, ⟨[], []⟩, ⟨[], []⟩, ⟨[], []⟩, ⟨[], []⟩, ⟨d73, []⟩, ⟨d74, []⟩, ⟨d75, (topId v74 ++ ([]))⟩, ⟨[], []⟩, ⟨[], []⟩, ⟨[], []⟩, ⟨d77, []⟩, ⟨d78, []⟩, ⟨d79, (topId v78 ++ ([]))⟩, ⟨[], []⟩, ⟨[], []⟩, ⟨d81, []⟩, ⟨[(300041, some ⟨[(intA (0)), (intA (0))], 60⟩)], []⟩, ⟨d82, (topId (AV.ptr 300041 0) ++ (topId v81 ++ ([])))⟩]) (opP (ldA (mget (mpushs ((300041, some ⟨[(intA (0)), (intA (0))], 60⟩) :: (mpushs (mpushs (mpushs (mpushs (mpushs (mpushs (mpushs (mpushs (mpushs (mpushs (mpushs (mpushs (mpushs m d65) d66) d67) d69) d70) d71) d73) d74) d75) d77) d78) d79) d81)) d82)) 2 (AV.ptr 300041 0)) fun v83 =>
exA2 v83 fun c84 c85 =>
ex_i64 c84 fun z86 =>
ex_i64 c85 fun z87 =>
callQ Tryz.prog KK.gl (mpushs ((300041, some ⟨[(intA (0)), (intA (0))], 60⟩) :: (mpushs (mpushs (mpushs (mpushs (mpushs (mpushs (mpushs (mpushs (mpushs (mpushs (mpushs (mpushs (mpushs m d65) d66) d67) d69) d70) d71) d73) d74) d75) d77) d78) d79) d81)) d82) 82 [t1, (AV.agg [(intA z86), (intA z87)])] fun v88 =>
ex_i64 v88 fun z89 =>
bif (z89 == (1)) then (
retL R (mpushs ((300041, some ⟨[(intA (0)), (intA (0))], 60⟩) :: (mpushs (mpushs (mpushs (mpushs (mpushs (mpushs (mpushs (mpushs (mpushs (mpushs (mpushs (mpushs (mpushs m d65) d66) d67) d69) d70) d71) d73) d74) d75) d77) d78) d79) d81)) d82) [some (boolA true)]) else (
bif (z89 == (0)) then (
opP (lenS t1) fun v90 =>
ex_i64 v90 fun z91 =>
Tri Tryz.prog KK 127 0 (.loop c75_0_1_0) ⟨[(0, t0), (1, t1), (4, (boolA t4)), (6, (AV.ptr 100010 0)), (7, (AV.ptr 100011 0)), (8, t8), (11, (intA t11)), (17, (intA t17)), (18, (intA t18)), (49, (intA t11)), (50, t8), (51, (intA z50)), (52, (boolA (decide (t11 < z50)))), (55, t8), (56, (intA t11)), (57, v51), (58, (AV.agg [(intA z55), (intA z56)])), (59, t8), (60, (intA t11)), (61, (intA (IntKind.wrap .i64 (t11 - (1))))), (62, v57), (63, (AV.agg [(intA z61), (intA z62)])), (64, (boolA b64)), (65, t8), (66, (intA t11)), (67, v65), (68, v66), (69, (intA z68)), (70, t8), (71, (intA t11)), (72, (intA (IntKind.wrap .i64 (t11 - (1))))), (73, v69), (74, v70), (75, (intA z72)), (76, (intA (IntKind.wrap .i64 (z68 + z72)))), (77, (intA (IntKind.wrap .i64 (Int.tdiv (IntKind.wrap .i64 (z68 + z72)) (2))))), (78, t8), (79, (intA t11)), (80, v73), (81, v74), (82, (intA z76)), (83, t8), (84, (intA t11)), (85, (intA (IntKind.wrap .i64 (t11 - (1))))), (86, v77), (87, v78), (88, (intA z80)), (89, (intA (IntKind.wrap .i64 (z76 + z80)))), (90, (intA (IntKind.wrap .i64 (Int.tdiv (IntKind.wrap .i64 (z76 + z80)) (2))))), (91, v81), (12, (AV.ptr 300041 0)), (92, t1), (93, (AV.agg [(intA z86), (intA z87)])), (94, (intA z89)), (96, (boolA (z89 == (1)))), (95, (boolA (z89 == (1)))), (98, (boolA (z89 == (0)))), (97, (boolA (z89 == (0)))), (99, t1), (100, (intA z91)), (101, (intA (0)))], (mpushs ((300041, some ⟨[(intA (0)), (intA (0))], 60⟩) :: (mpushs (mpushs (mpushs (mpushs (mpushs (mpushs (mpushs (mpushs (mpushs (mpushs (mpushs (mpushs (mpushs m d65) d66) d67) d69) d70) d71) d73) d74) d75) d77) d78) d79) d81)) d82), 300116⟩ (q75_0_1_0 R N0 N1)) else (
N1 ⟨[(0, t0), (1, t1), (4, (boolA t4)), (6, (AV.ptr 100010 0)), (7, (AV.ptr 100011 0)), (8, t8), (11, (intA (IntKind.wrap .i64 (t11 + (1))))), (17, (intA t17)), (18, (intA t18)), (49, (intA t11)), (50, t8), (51, (intA z50)), (52, (boolA (decide (t11 < z50)))), (55, t8), (56, (intA t11)), (57, v51), (58, (AV.agg [(intA z55), (intA z56)])), (59, t8), (60, (intA t11)), (61, (intA (IntKind.wrap .i64 (t11 - (1))))), (62, v57), (63, (AV.agg [(intA z61), (intA z62)])), (64, (boolA b64)), (65, t8), (66, (intA t11)), (67, v65), (68, v66), (69, (intA z68)), (70, t8), (71, (intA t11)), (72, (intA (IntKind.wrap .i64 (t11 - (1))))), (73, v69), (74, v70), (75, (intA z72)), (76, (intA (IntKind.wrap .i64 (z68 + z72)))), (77, (intA (IntKind.wrap .i64 (Int.tdiv (IntKind.wrap .i64 (z68 + z72)) (2))))), (78, t8), (79, (intA t11)), (80, v73), (81, v74), (82, (intA z76)), (83, t8), (84, (intA t11)), (85, (intA (IntKind.wrap .i64 (t11 - (1))))), (86, v77), (87, v78), (88, (intA z80)), (89, (intA (IntKind.wrap .i64 (z76 + z80)))), (90, (intA (IntKind.wrap .i64 (Int.tdiv (IntKind.wrap .i64 (z76 + z80)) (2))))), (91, v81), (12, (AV.ptr 300041 0)), (92, t1), (93, (AV.agg [(intA z86), (intA z87)])), (94, (intA z89)), (96, (boolA (z89 == (1)))), (95, (boolA (z89 == (1)))), (98, (boolA (z89 == (0)))), (97, (boolA (z89 == (0)))), (53, (intA t11)), (54, (intA (IntKind.wrap .i64 (t11 + (1)))))], (mpushs ((300041, some ⟨[(intA (0)), (intA (0))], 60⟩) :: (mpushs (mpushs (mpushs (mpushs (mpushs (mpushs (mpushs (mpushs (mpushs (mpushs (mpushs (mpushs (mpushs m d65) d66) d67) d69) d70) d71) d73) d74) d75) d77) d78) d79) d81)) d82), 300116⟩))))) else (
N0 ⟨[(0, t0), (1, t1), (4, (boolA t4)), (6, (AV.ptr 100010 0)), (7, (AV.ptr 100011 0)), (8, t8), (11, (intA t11)), (17, (intA t17)), (18, (intA (IntKind.wrap .i64 (t18 + (1))))), (49, (intA t11)), (50, t8), (51, (intA z50)), (52, (boolA (decide (t11 < z50)))), (126, (intA (IntKind.wrap .i64 (t18 + (1)))))], m, 300006⟩)
theorem B75_0_1_eq (t0 : AV) (t1 : AV) (t4 : Bool) (t8 : AV) (t11 : Int) (t17 : Int) (t18 : Int) (m : Mem) (R : AV → Mem → Prop) (N0 : St → Prop) (N1 : St → Prop) : W Tryz.prog KK 127 0 c75_0_1 (h75_0_1 t0 t1 t4 t8 t11 t17 t18 m) (qq75_0_1 R N0 N1) = B75_0_1 t0 t1 t4 t8 t11 t17 t18 m R N0 N1 := by kernel_rfl
theorem L75_0_1 (R : AV → Mem → Prop) (N0 : St → Prop) {σ : Type} (I : σ → Prop) (t0 : σ → AV) (t1 : σ → AV) (t4 : σ → Bool) (t8 : σ → AV) (t11 : σ → Int) (t17 : σ → Int) (t18 : σ → Int) (m : σ → Mem) (μ : σ → Nat) (step : ∀ x, I x → B75_0_1 (t0 x) (t1 x) (t4 x) (t8 x) (t11 x) (t17 x) (t18 x) (m x) R N0 (fun s' => ∃ y, I y ∧ μ y < μ x ∧ Weak KK 127 0 s' (h75_0_1 (t0 y) (t1 y) (t4 y) (t8 y) (t11 y) (t17 y) (t18 y) (m y)))) (x : σ) (hx : I x) {s : St} (hw : Weak KK 127 0 s (h75_0_1 (t0 x) (t1 x) (t4 x) (t8 x) (t11 x) (t17 x) (t18 x) (m x))) : Tri Tryz.prog KK 127 0 (.loop c75_0_1) s (q75_0_1 R N0) :=
  Tri.weak hw (Tri.loops fol I (fun x => h75_0_1 (t0 x) (t1 x) (t4 x) (t8 x) (t11 x) (t17 x) (t18 x) (m x)) μ (fun x hx => (B75_0_1_eq (t0 x) (t1 x) (t4 x) (t8 x) (t11 x) (t17 x) (t18 x) (m x) R N0 _).mpr (step x hx)) x hx)
noncomputable def B75_0_1_0 (t0 : AV) (t1 : AV) (t4 : Bool) (t8 : AV) (t11 : Int) (t17 : Int) (t18 : Int) (t100 : Int) (t101 : Int) (m : Mem) (R : AV → Mem → Prop) (N0 : St → Prop) (N1 : St → Prop) (N2 : St → Prop) : Prop :=
bif (decide (t101 < t100)) then (
opM (idxS 2 t1 (intA t101)) fun v92 d92 =>
opM (ldA (look' (mpushs m d92) (topId v92 ++ ([]))) 2 v92) fun v93 d93 =>
exA2 v93 fun c94 c95 =>
ex_i64 c94 fun z96 =>
ex_i64 c95 fun z97 =>
callF Tryz.prog KK.gl (mpushs (mpushs m d92) d93) 400009 70 [t1, (intA t101)] fun v98 d98 ft98 =>
exA2 v98 fun c99 c100 =>
ex_i64 c99 fun z101 =>
ex_i64 c100 fun z102 =>
storeW Tryz.prog (look' ((400011, some ⟨[(intA (0)), (intA (0))], 60⟩) :: (400010, some ⟨[(intA (0)), (intA (0))], 60⟩) :: (mpushs (mpushs (mpushs m d92) d93) d98)) (topId (AV.ptr 400010 0) ++ (topId (AV.agg [(intA z96), (intA z97)]) ++ ([])))) 60 (AV.ptr 400010 0) (AV.agg [(intA z96), (intA z97)]) fun v103 d103 =>
storeW Tryz.prog (look' (mpushs ((400011, some ⟨[(intA (0)), (intA (0))], 60⟩) :: (400010, some ⟨[(intA (0)), (intA (0))], 60⟩) :: (mpushs (mpushs (mpushs m d92) d93) d98)) d103) (topId (AV.ptr 400011 0) ++ (topId (AV.agg [(intA z101), (intA z102)]) ++ ([])))) 60 (AV.ptr 400011 0) (AV.agg [(intA z101), (intA z102)]) fun v104 d104 =>
chk (confOk [0, 0, 3, 7, 0, 0, 48, 0, 0, 511, 1023] [⟨[], []⟩, ⟨[], []⟩, ⟨d92, []⟩, ⟨d93, (topId v92 ++ ([]))⟩, ⟨[], []⟩, ⟨[], []⟩, ⟨d98, ft98⟩, ⟨[(400010, some ⟨[(intA (0)), (intA (0))], 60⟩)], []⟩, ⟨[(400011, some ⟨[(intA (0)), (intA (0))], 60⟩)], []⟩, ⟨d103, (topId (AV.ptr 400010 0) ++ (topId (AV.agg [(intA z96), (intA z97)]) ++ ([])))⟩, ⟨d104, (topId (AV.ptr 400011 0) ++ (topId (AV.agg [(intA z101), (intA z102)]) ++ ([])))⟩]) (opP (ldA (mget (mpushs (mpushs ((400011, some ⟨[(intA (0)), (intA (0))], 60⟩) :: (400010, some ⟨[(intA (0)), (intA (0))], 60⟩) :: (mpushs (mpushs (mpushs m d92) d93) d98)) d103) d104)) 2 (AV.ptr 400010 0)) fun v105 =>
exA2 v105 fun c106 c107 =>
ex_i64 c106 fun z108 =>
ex_i64 c107 fun z109 =>
opP (ldA (mget (mpushs (mpushs ((400011, some ⟨[(intA (0)), (intA (0))], 60⟩) :: (400010, some ⟨[(intA (0)), (intA (0))], 60⟩) :: (mpushs (mpushs (mpushs m d92) d93) d98)) d103) d104)) 2 (AV.ptr 400011 0)) fun v110 =>
exA2 v110 fun c111 c112 =>
ex_i64 c111 fun z113 =>
ex_i64 c112 fun z114 =>
opP (ldA (mget (mpushs (mpushs ((400011, some ⟨[(intA (0)), (intA (0))], 60⟩) :: (400010, some ⟨[(intA (0)), (intA (0))], 60⟩) :: (mpushs (mpushs (mpushs m d92) d93) d98)) d103) d104)) 2 (AV.ptr 300041 0)) fun v115 =>
exA2 v115 fun c116 c117 =>
ex_i64 c116 fun z118 =>
ex_i64 c117 fun z119 =>
callQ Tryz.prog KK.gl (mpushs (mpushs ((400011, some ⟨[(intA (0)), (intA (0))], 60⟩) :: (400010, some ⟨[(intA (0)), (intA (0))], 60⟩) :: (mpushs (mpushs (mpushs m d92) d93) d98)) d103) d104) 90 [(AV.agg [(intA z108), (intA z109)]), (AV.agg [(intA z113), (intA z114)]), (AV.agg [(intA z118), (intA z119)])] fun v120 =>
exB v120 fun b121 =>
bif b121 then (
opP (ldA (mget (mpushs (mpushs ((400011, some ⟨[(intA (0)), (intA (0))], 60⟩) :: (400010, some ⟨[(intA (0)), (intA (0))], 60⟩) :: (mpushs (mpushs (mpushs m d92) d93) d98)) d103) d104)) 2 (AV.ptr 100011 0)) fun v122 =>
exA2 v122 fun c123 c124 =>
ex_i64 c123 fun z125 =>
ex_i64 c124 fun z126 =>
opP (ldA (mget (mpushs (mpushs ((400011, some ⟨[(intA (0)), (intA (0))], 60⟩) :: (400010, some ⟨[(intA (0)), (intA (0))], 60⟩) :: (mpushs (mpushs (mpushs m d92) d93) d98)) d103) d104)) 2 (AV.ptr 100010 0)) fun v127 =>
exA2 v127 fun c128 c129 =>
ex_i64 c128 fun z130 =>
ex_i64 c129 fun z131 =>
callQ Tryz.prog KK.gl (mpushs (mpushs ((400011, some ⟨[(intA (0)), (intA (0))], 60⟩) :: (400010, some ⟨[(intA (0)), (intA (0))], 60⟩) :: (mpushs (mpushs (mpushs m d92) d93) d98)) d103) d104) 89 [(AV.agg [(intA z125), (intA z126)]), (AV.agg [(intA z130), (intA z131)])] fun v132 =>
exA2 v132 fun c133 c134 =>
ex_i64 c133 fun z135 =>
ex_i64 c134 fun z136 =>
opP (ldA (mget (mpushs (mpushs ((400011, some ⟨[(intA (0)), (intA (0))], 60⟩) :: (400010, some ⟨[(intA (0)), (intA (0))], 60⟩) :: (mpushs (mpushs (mpushs m d92) d93) d98)) d103) d104)) 2 (AV.ptr 400011 0)) fun v137 =>
exA2 v137 fun c138 c139 =>
ex_i64 c138 fun z140 =>
ex_i64 c139 fun z141 =>
opP (ldA (mget (mpushs (mpushs ((400011, some ⟨[(intA (0)), (intA (0))], 60⟩) :: (400010, some ⟨[(intA (0)), (intA (0))], 60⟩) :: (mpushs (mpushs (mpushs m d92) d93) d98)) d103) d104)) 2 (AV.ptr 400010 0)) fun v142 =>
exA2 v142 fun c143 c144 =>
ex_i64 c143 fun z145 =>
ex_i64 c144 fun z146 =>
callQ Tryz.prog KK.gl (mpushs (mpushs ((400011, some ⟨[(intA (0)), (intA (0))], 60⟩) :: (400010, some ⟨[(intA (0)), (intA (0))], 60⟩) :: (mpushs (mpushs (mpushs m d92) d93) d98)) d103) d104) 89 [(AV.agg [(intA z140), (intA z141)]), (AV.agg [(intA z145), (intA z146)])] fun v147 =>
exA2 v147 fun c148 c149 =>
ex_i64 c148 fun z150 =>
ex_i64 c149 fun z151 =>
callQ Tryz.prog KK.gl (mpushs (mpushs ((400011, some ⟨[(intA (0)), (intA (0))], 60⟩) :: (400010, some ⟨[(intA (0)), (intA (0))], 60⟩) :: (mpushs (mpushs (mpushs m d92) d93) d98)) d103) d104) 94 [(AV.agg [(intA z135), (intA z136)]), (AV.agg [(intA z150), (intA z151)])] fun v152 =>
ex_i64 v152 fun z153 =>
bif (decide (z153 > (0))) then (
retL R (mpushs (mpushs ((400011, some ⟨[(intA (0)), (intA (0))], 60⟩) :: (400010, some ⟨[(intA (0)), (intA (0))], 60⟩) :: (mpushs (mpushs (mpushs m d92) d93) d98)) d103) d104) [some (boolA true)]) else (
N2 ⟨[(0, t0), (1, t1), (4, (boolA t4)), (6, (AV.ptr 100010 0)), (7, (AV.ptr 100011 0)), (8, t8), (11, (intA t11)), (12, (AV.ptr 300041 0)), (17, (intA t17)), (18, (intA t18)), (100, (intA t100)), (101, (intA (IntKind.wrap .i64 (t101 + (1))))), (102, (boolA (decide (t101 < t100)))), (103, (intA t101)), (13, (intA t101)), (104, t1), (105, (intA t101)), (106, v92), (107, (AV.agg [(intA z96), (intA z97)])), (108, t1), (109, (intA t101)), (110, (AV.agg [(intA z101), (intA z102)])), (14, (AV.ptr 400010 0)), (15, (AV.ptr 400011 0)), (111, (AV.agg [(intA z108), (intA z109)])), (112, (AV.agg [(intA z113), (intA z114)])), (113, (AV.agg [(intA z118), (intA z119)])), (114, (boolA b121)), (115, (boolA true)), (116, (AV.agg [(intA z125), (intA z126)])), (117, (AV.agg [(intA z130), (intA z131)])), (118, (AV.agg [(intA z135), (intA z136)])), (119, (AV.agg [(intA z140), (intA z141)])), (120, (AV.agg [(intA z145), (intA z146)])), (121, (AV.agg [(intA z150), (intA z151)])), (122, (intA z153)), (123, (boolA (decide (z153 > (0))))), (124, (boolA (decide (z153 > (0))))), (125, (intA (IntKind.wrap .i64 (t101 + (1)))))], (mpushs (mpushs ((400011, some ⟨[(intA (0)), (intA (0))], 60⟩) :: (400010, some ⟨[(intA (0)), (intA (0))], 60⟩) :: (mpushs (mpushs (mpushs m d92) d93) d98)) d103) d104), 400030⟩)) else (
N2 ⟨[(0, t0), (1, t1), (4, (boolA t4)), (6, (AV.ptr 100010 0)), (7, (AV.ptr 100011 0)), (8, t8), (11, (intA t11)), (12, (AV.ptr 300041 0)), (17, (intA t17)), (18, (intA t18)), (100, (intA t100)), (101, (intA (IntKind.wrap .i64 (t101 + (1))))), (102, (boolA (decide (t101 < t100)))), (103, (intA t101)), (13, (intA t101)), (104, t1), (105, (intA t101)), (106, v92), (107, (AV.agg [(intA z96), (intA z97)])), (108, t1), (109, (intA t101)), (110, (AV.agg [(intA z101), (intA z102)])), (14, (AV.ptr 400010 0)), (15, (AV.ptr 400011 0)), (111, (AV.agg [(intA z108), (intA z109)])), (112, (AV.agg [(intA z113), (intA z114)])), (113, (AV.agg [(intA z118), (intA z119)])), (114, (boolA b121)), (115, (boolA false)), (116, (AV.tup [])), (117, (AV.tup [])), (118, (AV.tup [])), (119, (AV.tup [])), (120, (AV.tup [])), (121, (AV.tup [])), (122, (AV.tup [])), (123, (AV.tup [])), (124, (boolA false)), (125, (intA (IntKind.wrap .i64 (t101 + (1)))))], (mpushs (mpushs ((400011, some ⟨[(intA (0)), (intA (0))], 60⟩) :: (400010, some ⟨[(intA (0)), (intA (0))], 60⟩) :: (mpushs (mpushs (mpushs m d92) d93) d98)) d103) d104), 400030⟩))) else (
N1 ⟨[(0, t0), (1, t1), (4, (boolA t4)), (6, (AV.ptr 100010 0)), (7, (AV.ptr 100011 0)), (8, t8), (11, (intA (IntKind.wrap .i64 (t11 + (1))))), (12, (AV.ptr 300041 0)), (17, (intA t17)), (18, (intA t18)), (100, (intA t100)), (101, (intA t101)), (102, (boolA (decide (t101 < t100)))), (53, (intA t11)), (54, (intA (IntKind.wrap .i64 (t11 + (1)))))], m, 400004⟩)
theorem B75_0_1_0_eq (t0 : AV) (t1 : AV) (t4 : Bool) (t8 : AV) (t11 : Int) (t17 : Int) (t18 : Int) (t100 : Int) (t101 : Int) (m : Mem) (R : AV → Mem → Prop) (N0 : St → Prop) (N1 : St → Prop) (N2 : St → Prop) : W Tryz.prog KK 127 0 c75_0_1_0 (h75_0_1_0 t0 t1 t4 t8 t11 t17 t18 t100 t101 m) (qq75_0_1_0 R N0 N1 N2) = B75_0_1_0 t0 t1 t4 t8 t11 t17 t18 t100 t101 m R N0 N1 N2 := by kernel_rfl
theorem L75_0_1_0 (R : AV → Mem → Prop) (N0 : St → Prop) (N1 : St → Prop) {σ : Type} (I : σ → Prop) (t0 : σ → AV) (t1 : σ → AV) (t4 : σ → Bool) (t8 : σ → AV) (t11 : σ → Int) (t17 : σ → Int) (t18 : σ → Int) (t100 : σ → Int) (t101 : σ → Int) (m : σ → Mem) (μ : σ → Nat) (step : ∀ x, I x → B75_0_1_0 (t0 x) (t1 x) (t4 x) (t8 x) (t11 x) (t17 x) (t18 x) (t100 x) (t101 x) (m x) R N0 N1 (fun s' => ∃ y, I y ∧ μ y < μ x ∧ Weak KK 127 0 s' (h75_0_1_0 (t0 y) (t1 y) (t4 y) (t8 y) (t11 y) (t17 y) (t18 y) (t100 y) (t101 y) (m y)))) (x : σ) (hx : I x) {s : St} (hw : Weak KK 127 0 s (h75_0_1_0 (t0 x) (t1 x) (t4 x) (t8 x) (t11 x) (t17 x) (t18 x) (t100 x) (t101 x) (m x))) : Tri Tryz.prog KK 127 0 (.loop c75_0_1_0) s (q75_0_1_0 R N0 N1) :=
  Tri.weak hw (Tri.loops fol I (fun x => h75_0_1_0 (t0 x) (t1 x) (t4 x) (t8 x) (t11 x) (t17 x) (t18 x) (t100 x) (t101 x) (m x)) μ (fun x hx => (B75_0_1_0_eq (t0 x) (t1 x) (t4 x) (t8 x) (t11 x) (t17 x) (t18 x) (t100 x) (t101 x) (m x) R N0 N1 _).mpr (step x hx)) x hx)
noncomputable def F75 (a0 : AV) (a1 : AV) (R : AV → Mem → Prop) : Prop :=
opP (lenS a0) fun v0 =>
ex_i64 v0 fun z1 =>
Tri Tryz.prog KK 127 0 (.loop c75_0) ⟨[(0, a0), (1, a1), (4, (boolA false)), (16, a0), (17, (intA z1)), (18, (intA (0)))], [], 4⟩ (q75_0 R)
theorem F75_own (a0 : AV) (a1 : AV) (R : AV → Mem → Prop) (h : F75 a0 a1 R) : Own Tryz.prog KK.gl 75 [a0, a1] R := own_of_F fol Tryz.func75 (code := c75) (by kernel_rfl) (by kernel_rfl) (by kernel_rfl) (X := F75 a0 a1 R) (by kernel_rfl) h
/- skyway/polygon.Overlap -/
noncomputable def c48 : Code := ((Tryz.f48).body).getD .skip
noncomputable def q48 (R : AV → Mem → Prop) : AExit → St → Prop := retQ Tryz.prog Tryz.f48 R
noncomputable def c48_0 : Code := loopB c48 0
noncomputable def q48_0 (R : AV → Mem → Prop) : AExit → St → Prop := contW Tryz.prog KK 64 0 c48 0 (q48 R)
noncomputable def qq48_0 (R : AV → Mem → Prop) (N0 : St → Prop) : AExit → St → Prop := thenQ N0 (q48_0 R)
def h48_0 (t0 : AV) (t1 : AV) (t4 : Bool) (t5 : Int) (t13 : AV) (t14 : Int) (t15 : Int) (m : Mem) : St := ⟨[(0, t0), (1, t1), (4, (boolA t4)), (5, (intA t5)), (13, t13), (14, (intA t14)), (15, (intA t15))], m, 100000⟩
noncomputable def c48_1 : Code := loopB c48 1
noncomputable def q48_1 (R : AV → Mem → Prop) : AExit → St → Prop := contW Tryz.prog KK 64 0 c48 1 (q48 R)
noncomputable def qq48_1 (R : AV → Mem → Prop) (N0 : St → Prop) : AExit → St → Prop := thenQ N0 (q48_1 R)
def h48_1 (t0 : AV) (t1 : AV) (t4 : Bool) (t5 : Int) (t26 : Int) (t27 : Int) (m : Mem) : St := ⟨[(0, t0), (1, t1), (4, (boolA t4)), (5, (intA t5)), (26, (intA t26)), (27, (intA t27))], m, 200000⟩
noncomputable def c48_1_0 : Code := loopB c48_1 0
noncomputable def q48_1_0 (R : AV → Mem → Prop) (N0 : St → Prop) : AExit → St → Prop := contW Tryz.prog KK 64 0 c48_1 0 (qq48_1 R N0)
noncomputable def qq48_1_0 (R : AV → Mem → Prop) (N0 : St → Prop) (N1 : St → Prop) : AExit → St → Prop := thenQ N1 (q48_1_0 R N0)
def h48_1_0 (t0 : AV) (t1 : AV) (t4 : Bool) (t5 : Int) (t9 : Int) (t26 : Int) (t27 : Int) (t31 : Int) (t32 : Int) (m : Mem) : St := ⟨[(0, t0), (1, t1), (4, (boolA t4)), (5, (intA t5)), (9, (intA t9)), (26, (intA t26)), (27, (intA t27)), (31, (intA t31)), (32, (intA t32))], m, 300000⟩
noncomputable def B48_0 (t0 : AV) (t1 : AV) (t4 : Bool) (t5 : Int) (t13 : AV) (t14 : Int) (t15 : Int) (m : Mem) (R : AV → Mem → Prop) (N0 : St → Prop) : Prop :=
bif (decide (t15 < t14)) then (
opP (idxS 1 t13 (intA t15)) fun v3 =>
opP (ldS (mget m) v3) fun v4 =>
callQ Tryz.prog KK.gl m 46 [v4] fun v5 =>
ex_i64 v5 fun z6 =>
bif (z6 != (0)) then (
retL R m [some (boolA false), some (intA z6)]) else (
N0 ⟨[(0, t0), (1, t1), (4, (boolA t4)), (5, (intA t5)), (13, t13), (14, (intA t14)), (15, (intA (IntKind.wrap .i64 (t15 + (1))))), (16, (boolA (decide (t15 < t14)))), (17, v3), (18, v4), (7, v4), (19, v4), (20, (intA z6)), (8, (intA z6)), (21, (intA z6)), (22, (boolA (z6 != (0)))), (24, (intA (IntKind.wrap .i64 (t15 + (1)))))], m, 100074⟩)) else (
opP (lenS t0) fun v7 =>
ex_i64 v7 fun z8 =>
Tri Tryz.prog KK 64 0 (.loop c48_1) ⟨[(0, t0), (1, t1), (4, (boolA t4)), (5, (intA t5)), (13, t13), (14, (intA t14)), (15, (intA t15)), (16, (boolA (decide (t15 < t14)))), (25, t0), (26, (intA z8)), (27, (intA (0)))], m, 100004⟩ (q48_1 R))
theorem B48_0_eq (t0 : AV) (t1 : AV) (t4 : Bool) (t5 : Int) (t13 : AV) (t14 : Int) (t15 : Int) (m : Mem) (R : AV → Mem → Prop) (N0 : St → Prop) : W Tryz.prog KK 64 0 c48_0 (h48_0 t0 t1 t4 t5 t13 t14 t15 m) (qq48_0 R N0) = B48_0 t0 t1 t4 t5 t13 t14 t15 m R N0 := by kernel_rfl
theorem L48_0 (R : AV → Mem → Prop) {σ : Type} (I : σ → Prop) (t0 : σ → AV) (t1 : σ → AV) (t4 : σ → Bool) (t5 : σ → Int) (t13 : σ → AV) (t14 : σ → Int) (t15 : σ → Int) (m : σ → Mem) (μ : σ → Nat) (step : ∀ x, I x → B48_0 (t0 x) (t1 x) (t4 x) (t5 x) (t13 x) (t14 x) (t15 x) (m x) R (fun s' => ∃ y, I y ∧ μ y < μ x ∧ Weak KK 64 0 s' (h48_0 (t0 y) (t1 y) (t4 y) (t5 y) (t13 y) (t14 y) (t15 y) (m y)))) (x : σ) (hx : I x) {s : St} (hw : Weak KK 64 0 s (h48_0 (t0 x) (t1 x) (t4 x) (t5 x) (t13 x) (t14 x) (t15 x) (m x))) : Tri Tryz.prog KK 64 0 (.loop c48_0) s (q48_0 R) :=
  Tri.weak hw (Tri.loops fol I (fun x => h48_0 (t0 x) (t1 x) (t4 x) (t5 x) (t13 x) (t14 x) (t15 x) (m x)) μ (fun x hx => (B48_0_eq (t0 x) (t1 x) (t4 x) (t5 x) (t13 x) (t14 x) (t15 x) (m x) R _).mpr (step x hx)) x hx)
noncomputable def B48_1 (t0 : AV) (t1 : AV) (t4 : Bool) (t5 : Int) (t26 : Int) (t27 : Int) (m : Mem) (R : AV → Mem → Prop) (N0 : St → Prop) : Prop :=
bif (decide (t27 < t26)) then (
opP (lenS t1) fun v9 =>
ex_i64 v9 fun z10 =>
Tri Tryz.prog KK 64 0 (.loop c48_1_0) ⟨[(0, t0), (1, t1), (4, (boolA t4)), (5, (intA t5)), (26, (intA t26)), (27, (intA t27)), (28, (boolA (decide (t27 < t26)))), (29, (intA t27)), (9, (intA t27)), (30, t1), (31, (intA z10)), (32, (intA (0)))], m, 200006⟩ (q48_1_0 R N0)) else (
callQ Tryz.prog KK.gl m 74 [t0] fun v35 =>
callQ Tryz.prog KK.gl m 74 [t1] fun v36 =>
callQ Tryz.prog KK.gl m 75 [v35, v36] fun v37 =>
exB v37 fun b38 =>
bif b38 then (
retL R m [some (boolA true), some (intA (0))]) else (
callQ Tryz.prog KK.gl m 75 [v36, v35] fun v39 =>
exB v39 fun b40 =>
retL R m [some (boolA b40), some (intA (0))]))
theorem B48_1_eq (t0 : AV) (t1 : AV) (t4 : Bool) (t5 : Int) (t26 : Int) (t27 : Int) (m : Mem) (R : AV → Mem → Prop) (N0 : St → Prop) : W Tryz.prog KK 64 0 c48_1 (h48_1 t0 t1 t4 t5 t26 t27 m) (qq48_1 R N0) = B48_1 t0 t1 t4 t5 t26 t27 m R N0 := by kernel_rfl
theorem L48_1 (R : AV → Mem → Prop) {σ : Type} (I : σ → Prop) (t0 : σ → AV) (t1 : σ → AV) (t4 : σ → Bool) (t5 : σ → Int) (t26 : σ → Int) (t27 : σ → Int) (m : σ → Mem) (μ : σ → Nat) (step : ∀ x, I x → B48_1 (t0 x) (t1 x) (t4 x) (t5 x) (t26 x) (t27 x) (m x) R (fun s' => ∃ y, I y ∧ μ y < μ x ∧ Weak KK 64 0 s' (h48_1 (t0 y) (t1 y) (t4 y) (t5 y) (t26 y) (t27 y) (m y)))) (x : σ) (hx : I x) {s : St} (hw : Weak KK 64 0 s (h48_1 (t0 x) (t1 x) (t4 x) (t5 x) (t26 x) (t27 x) (m x))) : Tri Tryz.prog KK 64 0 (.loop c48_1) s (q48_1 R) :=
  Tri.weak hw (Tri.loops fol I (fun x => h48_1 (t0 x) (t1 x) (t4 x) (t5 x) (t26 x) (t27 x) (m x)) μ (fun x hx => (B48_1_eq (t0 x) (t1 x) (t4 x) (t5 x) (t26 x) (t27 x) (m x) R _).mpr (step x hx)) x hx)
noncomputable def B48_1_0 (t0 : AV) (t1 : AV) (t4 : Bool) (t5 : Int) (t9 : Int) (t26 : Int) (t27 : Int) (t31 : Int) (t32 : Int) (m : Mem) (R : AV → Mem → Prop) (N0 : St → Prop) (N1 : St → Prop) : Prop :=
bif (decide (t32 < t31)) then (
opP (idxS 2 t0 (intA t9)) fun v11 =>
opP (ldA (mget m) 2 v11) fun v12 =>
exA2 v12 fun c13 c14 =>
ex_i64 c13 fun z15 =>
ex_i64 c14 fun z16 =>
callQ Tryz.prog KK.gl m 70 [t0, (intA t9)] fun v17 =>
exA2 v17 fun c18 c19 =>
ex_i64 c18 fun z20 =>
ex_i64 c19 fun z21 =>
opP (idxS 2 t1 (intA t32)) fun v22 =>
opP (ldA (mget m) 2 v22) fun v23 =>
exA2 v23 fun c24 c25 =>
ex_i64 c24 fun z26 =>
ex_i64 c25 fun z27 =>
callQ Tryz.prog KK.gl m 70 [t1, (intA t32)] fun v28 =>
exA2 v28 fun c29 c30 =>
ex_i64 c29 fun z31 =>
ex_i64 c30 fun z32 =>
callQ Tryz.prog KK.gl m 73 [(AV.agg [(intA z15), (intA z16)]), (AV.agg [(intA z20), (intA z21)]), (AV.agg [(intA z26), (intA z27)]), (AV.agg [(intA z31), (intA z32)])] fun v33 =>
exB v33 fun b34 =>
bif b34 then (
retL R m [some (boolA true), some (intA (0))]) else (
N1 ⟨[(0, t0), (1, t1), (4, (boolA t4)), (5, (intA t5)), (9, (intA t9)), (26, (intA t26)), (27, (intA t27)), (31, (intA t31)), (32, (intA (IntKind.wrap .i64 (t32 + (1))))), (33, (boolA (decide (t32 < t31)))), (34, (intA t32)), (10, (intA t32)), (35, t0), (36, (intA t9)), (37, v11), (38, (AV.agg [(intA z15), (intA z16)])), (39, t0), (40, (intA t9)), (41, (AV.agg [(intA z20), (intA z21)])), (42, t1), (43, (intA t32)), (44, v22), (45, (AV.agg [(intA z26), (intA z27)])), (46, t1), (47, (intA t32)), (48, (AV.agg [(intA z31), (intA z32)])), (49, (boolA b34)), (50, (intA (IntKind.wrap .i64 (t32 + (1)))))], m, 300020⟩)) else (
N0 ⟨[(0, t0), (1, t1), (4, (boolA t4)), (5, (intA t5)), (9, (intA t9)), (26, (intA t26)), (27, (intA (IntKind.wrap .i64 (t27 + (1))))), (31, (intA t31)), (32, (intA t32)), (33, (boolA (decide (t32 < t31)))), (51, (intA (IntKind.wrap .i64 (t27 + (1)))))], m, 300003⟩)
theorem B48_1_0_eq (t0 : AV) (t1 : AV) (t4 : Bool) (t5 : Int) (t9 : Int) (t26 : Int) (t27 : Int) (t31 : Int) (t32 : Int) (m : Mem) (R : AV → Mem → Prop) (N0 : St → Prop) (N1 : St → Prop) : W Tryz.prog KK 64 0 c48_1_0 (h48_1_0 t0 t1 t4 t5 t9 t26 t27 t31 t32 m) (qq48_1_0 R N0 N1) = B48_1_0 t0 t1 t4 t5 t9 t26 t27 t31 t32 m R N0 N1 := by kernel_rfl
theorem L48_1_0 (R : AV → Mem → Prop) (N0 : St → Prop) {σ : Type} (I : σ → Prop) (t0 : σ → AV) (t1 : σ → AV) (t4 : σ → Bool) (t5 : σ → Int) (t9 : σ → Int) (t26 : σ → Int) (t27 : σ → Int) (t31 : σ → Int) (t32 : σ → Int) (m : σ → Mem) (μ : σ → Nat) (step : ∀ x, I x → B48_1_0 (t0 x) (t1 x) (t4 x) (t5 x) (t9 x) (t26 x) (t27 x) (t31 x) (t32 x) (m x) R N0 (fun s' => ∃ y, I y ∧ μ y < μ x ∧ Weak KK 64 0 s' (h48_1_0 (t0 y) (t1 y) (t4 y) (t5 y) (t9 y) (t26 y) (t27 y) (t31 y) (t32 y) (m y)))) (x : σ) (hx : I x) {s : St} (hw : Weak KK 64 0 s (h48_1_0 (t0 x) (t1 x) (t4 x) (t5 x) (t9 x) (t26 x) (t27 x) (t31 x) (t32 x) (m x))) : Tri Tryz.prog KK 64 0 (.loop c48_1_0) s (q48_1_0 R N0) :=
  Tri.weak hw (Tri.loops fol I (fun x => h48_1_0 (t0 x) (t1 x) (t4 x) (t5 x) (t9 x) (t26 x) (t27 x) (t31 x) (t32 x) (m x)) μ (fun x hx => (B48_1_0_eq (t0 x) (t1 x) (t4 x) (t5 x) (t9 x) (t26 x) (t27 x) (t31 x) (t32 x) (m x) R N0 _).mpr (step x hx)) x hx)
noncomputable def F48 (a0 : AV) (a1 : AV) (R : AV → Mem → Prop) : Prop :=
opN (bsl 4 77 1 2 [AV.nils] [(0, a0), (1, a1)]) [] fun v0 m0 =>
opP (lenS v0) fun v1 =>
ex_i64 v1 fun z2 =>
Tri Tryz.prog KK 64 0 (.loop c48_0) ⟨[(0, a0), (1, a1), (4, (boolA false)), (5, (intA (0))), (11, a0), (12, a1), (13, v0), (14, (intA z2)), (15, (intA (0)))], m0, 7⟩ (q48_0 R)
theorem F48_own (a0 : AV) (a1 : AV) (R : AV → Mem → Prop) (h : F48 a0 a1 R) : Own Tryz.prog KK.gl 48 [a0, a1] R := own_of_F fol Tryz.func48 (code := c48) (by kernel_rfl) (by kernel_rfl) (by kernel_rfl) (X := F48 a0 a1 R) (by kernel_rfl) h
/- skyway/volume.Overlap -/
noncomputable def c38 : Code := ((Tryz.f38).body).getD .skip
noncomputable def q38 (R : AV → Mem → Prop) : AExit → St → Prop := retQ Tryz.prog Tryz.f38 R
noncomputable def c38_0 : Code := loopB c38 0
noncomputable def q38_0 (R : AV → Mem → Prop) : AExit → St → Prop := contW Tryz.prog KK 52 0 c38 0 (q38 R)
noncomputable def qq38_0 (R : AV → Mem → Prop) (N0 : St → Prop) : AExit → St → Prop := thenQ N0 (q38_0 R)
def h38_0 (t4 : Bool) (t5 : Int) (t13 : AV) (t14 : Int) (t15 : Int) (m : Mem) : St := ⟨[(2, (AV.ptr 0 0)), (3, (AV.ptr 1 0)), (4, (boolA t4)), (5, (intA t5)), (13, t13), (14, (intA t14)), (15, (intA t15))], m, 100000⟩
noncomputable def B38_0 (t4 : Bool) (t5 : Int) (t13 : AV) (t14 : Int) (t15 : Int) (m : Mem) (R : AV → Mem → Prop) (N0 : St → Prop) : Prop :=
bif (decide (t15 < t14)) then (
opP (idxS 3 t13 (intA t15)) fun v3 =>
opP (ldA (mget m) 3 v3) fun v4 =>
exA3 v4 fun c5 c6 c7 =>
ex_i64 c6 fun z8 =>
ex_i64 c7 fun z9 =>
chk (isCell c5) <| callQ Tryz.prog KK.gl ((100003, some ⟨[c5, (intA z8), (intA z9)], 79⟩) :: (100003, some ⟨[AV.nils, (intA (0)), (intA (0))], 79⟩) :: m) 35 [(AV.agg [c5, (intA z8), (intA z9)])] fun v10 =>
ex_i64 v10 fun z11 =>
bif (z11 != (0)) then (
retL R ((100003, some ⟨[c5, (intA z8), (intA z9)], 79⟩) :: (100003, some ⟨[AV.nils, (intA (0)), (intA (0))], 79⟩) :: m) [some (boolA false), some (intA z11)]) else (
N0 ⟨[(2, (AV.ptr 0 0)), (3, (AV.ptr 1 0)), (4, (boolA t4)), (5, (intA t5)), (13, t13), (14, (intA t14)), (15, (intA (IntKind.wrap .i64 (t15 + (1))))), (16, (boolA (decide (t15 < t14)))), (17, v3), (18, (AV.agg [c5, (intA z8), (intA z9)])), (7, (AV.ptr 100003 0)), (19, (AV.agg [c5, (intA z8), (intA z9)])), (20, (intA z11)), (8, (intA z11)), (21, (intA z11)), (22, (boolA (z11 != (0)))), (24, (intA (IntKind.wrap .i64 (t15 + (1)))))], ((100003, some ⟨[c5, (intA z8), (intA z9)], 79⟩) :: (100003, some ⟨[AV.nils, (intA (0)), (intA (0))], 79⟩) :: m), 100075⟩)) else (
opP (ldS (mget m) (AV.ptr 0 0)) fun v12 =>
opP (ldS (mget m) (AV.ptr 1 0)) fun v13 =>
callQ Tryz.prog KK.gl m 48 [v12, v13] fun v14 =>
exT2 v14 fun c15 c16 =>
exB c15 fun b17 =>
ex_i64 c16 fun z18 =>
bif (z18 == (0)) then (
bif b17 then (
opP (ldS (mget m) (AV.ptr 0 1)) fun v19 =>
ex_i64 v19 fun z20 =>
opP (ldS (mget m) (AV.ptr 1 1)) fun v21 =>
ex_i64 v21 fun z22 =>
opP (opA Tryz.prog (.call ⟨.builtin .max, #[.tmp 0, .tmp 1], #[3, 3]⟩) 3 [(intA z20), (intA z22)] (mget m) 100084) fun v23 =>
ex_i64 v23 fun z24 =>
opP (ldS (mget m) (AV.ptr 0 2)) fun v25 =>
ex_i64 v25 fun z26 =>
opP (ldS (mget m) (AV.ptr 1 2)) fun v27 =>
ex_i64 v27 fun z28 =>
opP (opA Tryz.prog (.call ⟨.builtin .min, #[.tmp 0, .tmp 1], #[3, 3]⟩) 3 [(intA z26), (intA z28)] (mget m) 100089) fun v29 =>
ex_i64 v29 fun z30 =>
retL R m [some (boolA (decide (z24 < z30))), some (intA z18)]) else (
retL R m [some (boolA false), some (intA z18)])) else (
retL R m [some (boolA false), some (intA z18)]))
theorem B38_0_eq (t4 : Bool) (t5 : Int) (t13 : AV) (t14 : Int) (t15 : Int) (m : Mem) (R : AV → Mem → Prop) (N0 : St → Prop) : W Tryz.prog KK 52 0 c38_0 (h38_0 t4 t5 t13 t14 t15 m) (qq38_0 R N0) = B38_0 t4 t5 t13 t14 t15 m R N0 := by kernel_rfl
theorem L38_0 (R : AV → Mem → Prop) {σ : Type} (I : σ → Prop) (t4 : σ → Bool) (t5 : σ → Int) (t13 : σ → AV) (t14 : σ → Int) (t15 : σ → Int) (m : σ → Mem) (μ : σ → Nat) (step : ∀ x, I x → B38_0 (t4 x) (t5 x) (t13 x) (t14 x) (t15 x) (m x) R (fun s' => ∃ y, I y ∧ μ y < μ x ∧ Weak KK 52 0 s' (h38_0 (t4 y) (t5 y) (t13 y) (t14 y) (t15 y) (m y)))) (x : σ) (hx : I x) {s : St} (hw : Weak KK 52 0 s (h38_0 (t4 x) (t5 x) (t13 x) (t14 x) (t15 x) (m x))) : Tri Tryz.prog KK 52 0 (.loop c38_0) s (q38_0 R) :=
  Tri.weak hw (Tri.loops fol I (fun x => h38_0 (t4 x) (t5 x) (t13 x) (t14 x) (t15 x) (m x)) μ (fun x hx => (B38_0_eq (t4 x) (t5 x) (t13 x) (t14 x) (t15 x) (m x) R _).mpr (step x hx)) x hx)
noncomputable def F38 (a0_0 : AV) (a0_1 : Int) (a0_2 : Int) (a1_0 : AV) (a1_1 : Int) (a1_2 : Int) (R : AV → Mem → Prop) : Prop :=
chk (isCell a0_0) <| chk (isCell a1_0) <| opN (bsl 6 79 3 2 [AV.nils, (intA (0)), (intA (0))] [(0, (AV.agg [a0_0, (intA a0_1), (intA a0_2)])), (1, (AV.agg [a1_0, (intA a1_1), (intA a1_2)]))]) ((1, some ⟨[a1_0, (intA a1_1), (intA a1_2)], 79⟩) :: (0, some ⟨[a0_0, (intA a0_1), (intA a0_2)], 79⟩) :: []) fun v0 m0 =>
opP (lenS v0) fun v1 =>
ex_i64 v1 fun z2 =>
Tri Tryz.prog KK 52 0 (.loop c38_0) ⟨[(0, (AV.agg [a0_0, (intA a0_1), (intA a0_2)])), (1, (AV.agg [a1_0, (intA a1_1), (intA a1_2)])), (2, (AV.ptr 0 0)), (3, (AV.ptr 1 0)), (4, (boolA false)), (5, (intA (0))), (11, (AV.agg [a0_0, (intA a0_1), (intA a0_2)])), (12, (AV.agg [a1_0, (intA a1_1), (intA a1_2)])), (13, v0), (14, (intA z2)), (15, (intA (0)))], m0, 9⟩ (q38_0 R)
theorem F38_own (a0_0 : AV) (a0_1 : Int) (a0_2 : Int) (a1_0 : AV) (a1_1 : Int) (a1_2 : Int) (R : AV → Mem → Prop) (h : F38 a0_0 a0_1 a0_2 a1_0 a1_1 a1_2 R) : Own Tryz.prog KK.gl 38 [(AV.agg [a0_0, (intA a0_1), (intA a0_2)]), (AV.agg [a1_0, (intA a1_1), (intA a1_2)])] R := own_of_F fol Tryz.func38 (code := c38) (by kernel_rfl) (by kernel_rfl) (by kernel_rfl) (X := F38 a0_0 a0_1 a0_2 a1_0 a1_1 a1_2 R) (by kernel_rfl) h
/- skyway/sector.Check -/
noncomputable def c23 : Code := ((Tryz.f23).body).getD .skip
noncomputable def q23 (R : AV → Mem → Prop) : AExit → St → Prop := retQ Tryz.prog Tryz.f23 R
noncomputable def c23_0 : Code := loopB c23 0
noncomputable def q23_0 (R : AV → Mem → Prop) : AExit → St → Prop := contW Tryz.prog KK 87 0 c23 0 (q23 R)
noncomputable def qq23_0 (R : AV → Mem → Prop) (N0 : St → Prop) : AExit → St → Prop := thenQ N0 (q23_0 R)
def h23_0 (t0 : AV) (t2 : Int) (t3 : AV) (t18 : AV) (t19 : Int) (t20 : Int) (m : Mem) : St := ⟨[(0, t0), (2, (intA t2)), (3, t3), (18, t18), (19, (intA t19)), (20, (intA t20))], m, 100000⟩
noncomputable def c23_0_0 : Code := loopB c23_0 0
noncomputable def q23_0_0 (R : AV → Mem → Prop) (N0 : St → Prop) : AExit → St → Prop := contW Tryz.prog KK 87 0 c23_0 0 (qq23_0 R N0)
noncomputable def qq23_0_0 (R : AV → Mem → Prop) (N0 : St → Prop) (N1 : St → Prop) : AExit → St → Prop := thenQ N1 (q23_0_0 R N0)
def h23_0_0 (t0 : AV) (t2 : Int) (t3 : AV) (t4 : Int) (t18 : AV) (t19 : Int) (t20 : Int) (t41 : AV) (t42 : Int) (t43 : Int) (b100004_0 : ByteArray) (b100004_1 : AV) (m : Mem) : St := ⟨[(0, t0), (2, (intA t2)), (3, t3), (4, (intA t4)), (5, (AV.ptr 100004 0)), (18, t18), (19, (intA t19)), (20, (intA t20)), (41, t41), (42, (intA t42)), (43, (intA t43))], ((100004, some ⟨[(AV.sc (.string b100004_0)), b100004_1], 83⟩) :: m), 200000⟩
noncomputable def c23_1 : Code := loopB c23 1
noncomputable def q23_1 (R : AV → Mem → Prop) : AExit → St → Prop := contW Tryz.prog KK 87 0 c23 1 (q23 R)
noncomputable def qq23_1 (R : AV → Mem → Prop) (N0 : St → Prop) : AExit → St → Prop := thenQ N0 (q23_1 R)
def h23_1 (t2 : Int) (t3 : AV) (t63 : AV) (t64 : Int) (t65 : Int) (m : Mem) : St := ⟨[(2, (intA t2)), (3, t3), (63, t63), (64, (intA t64)), (65, (intA t65))], m, 200000⟩
noncomputable def c23_1_0 : Code := loopB c23_1 0
noncomputable def q23_1_0 (R : AV → Mem → Prop) (N0 : St → Prop) : AExit → St → Prop := contW Tryz.prog KK 87 0 c23_1 0 (qq23_1 R N0)
noncomputable def qq23_1_0 (R : AV → Mem → Prop) (N0 : St → Prop) (N1 : St → Prop) : AExit → St → Prop := thenQ N1 (q23_1_0 R N0)
def h23_1_0 (t2 : Int) (t3 : AV) (t63 : AV) (t64 : Int) (t65 : Int) (t72 : AV) (t73 : Int) (t74 : Int) (b200004_0 : AV) (b200004_1 : Int) (b200004_2 : Int) (m : Mem) : St := ⟨[(2, (intA t2)), (3, t3), (10, (AV.ptr 200004 0)), (63, t63), (64, (intA t64)), (65, (intA t65)), (72, t72), (73, (intA t73)), (74, (intA t74))], ((200004, some ⟨[b200004_0, (intA b200004_1), (intA b200004_2)], 79⟩) :: m), 300000⟩
noncomputable def B23_0 (t0 : AV) (t2 : Int) (t3 : AV) (t18 : AV) (t19 : Int) (t20 : Int) (m : Mem) (R : AV → Mem → Prop) (N0 : St → Prop) : Prop :=
bif (decide (t20 < t19)) then (
opP (idxS 2 t18 (intA t20)) fun v4 =>
opP (ldA (mget m) 2 v4) fun v5 =>
exA2 v5 fun c6 c7 =>
exStr c6 fun s8 =>
chk (isCell c7) <| callQ Tryz.prog KK.gl ((100004, some ⟨[(AV.sc (.string s8)), c7], 83⟩) :: (100004, some ⟨[(AV.sc (.string ⟨#[]⟩)), AV.nils], 83⟩) :: m) 34 [(AV.sc (.string s8))] fun v9 =>
exB v9 fun b10 =>
bif (!b10) then (
retL R ((100004, some ⟨[(AV.sc (.string s8)), c7], 83⟩) :: (100004, some ⟨[(AV.sc (.string ⟨#[]⟩)), AV.nils], 83⟩) :: m) [some (intA (3))]) else (
opP (lenS c7) fun v11 =>
ex_i64 v11 fun z12 =>
bif (z12 == (0)) then (
retL R ((100004, some ⟨[(AV.sc (.string s8)), c7], 83⟩) :: (100004, some ⟨[(AV.sc (.string ⟨#[]⟩)), AV.nils], 83⟩) :: m) [some (intA (8))]) else (
opP (lenS c7) fun v13 =>
ex_i64 v13 fun z14 =>
bif (decide (z14 > (4))) then (
retL R ((100004, some ⟨[(AV.sc (.string s8)), c7], 83⟩) :: (100004, some ⟨[(AV.sc (.string ⟨#[]⟩)), AV.nils], 83⟩) :: m) [some (intA (2))]) else (
opP (lenS c7) fun v15 =>
ex_i64 v15 fun z16 =>
Tri Tryz.prog KK 87 0 (.loop c23_0_0) ⟨[(0, t0), (2, (intA t2)), (3, t3), (18, t18), (19, (intA t19)), (20, (intA t20)), (21, (boolA (decide (t20 < t19)))), (22, (intA t20)), (23, v4), (24, (AV.agg [(AV.sc (.string s8)), c7])), (5, (AV.ptr 100004 0)), (4, (intA t20)), (26, (AV.ptr 100004 0)), (27, (AV.sc (.string s8))), (28, (boolA b10)), (29, (boolA (!b10))), (25, (boolA (!b10))), (31, (AV.ptr 100004 1)), (32, c7), (33, (intA z12)), (34, (boolA (z12 == (0)))), (30, (boolA (z12 == (0)))), (36, (AV.ptr 100004 1)), (37, c7), (38, (intA z14)), (39, (boolA (decide (z14 > (4))))), (35, (boolA (decide (z14 > (4))))), (40, (AV.ptr 100004 1)), (41, c7), (42, (intA z16)), (43, (intA (0)))], ((100004, some ⟨[(AV.sc (.string s8)), c7], 83⟩) :: (100004, some ⟨[(AV.sc (.string ⟨#[]⟩)), AV.nils], 83⟩) :: m), 100089⟩ (q23_0_0 R N0))))) else (
opP (lenS t3) fun v30 =>
ex_i64 v30 fun z31 =>
Tri Tryz.prog KK 87 0 (.loop c23_1) ⟨[(0, t0), (2, (intA t2)), (3, t3), (18, t18), (19, (intA t19)), (20, (intA t20)), (21, (boolA (decide (t20 < t19)))), (63, t3), (64, (intA z31)), (65, (intA (0)))], m, 100004⟩ (q23_1 R))
theorem B23_0_eq (t0 : AV) (t2 : Int) (t3 : AV) (t18 : AV) (t19 : Int) (t20 : Int) (m : Mem) (R : AV → Mem → Prop) (N0 : St → Prop) : W Tryz.prog KK 87 0 c23_0 (h23_0 t0 t2 t3 t18 t19 t20 m) (qq23_0 R N0) = B23_0 t0 t2 t3 t18 t19 t20 m R N0 := by kernel_rfl
theorem L23_0 (R : AV → Mem → Prop) {σ : Type} (I : σ → Prop) (t0 : σ → AV) (t2 : σ → Int) (t3 : σ → AV) (t18 : σ → AV) (t19 : σ → Int) (t20 : σ → Int) (m : σ → Mem) (μ : σ → Nat) (step : ∀ x, I x → B23_0 (t0 x) (t2 x) (t3 x) (t18 x) (t19 x) (t20 x) (m x) R (fun s' => ∃ y, I y ∧ μ y < μ x ∧ Weak KK 87 0 s' (h23_0 (t0 y) (t2 y) (t3 y) (t18 y) (t19 y) (t20 y) (m y)))) (x : σ) (hx : I x) {s : St} (hw : Weak KK 87 0 s (h23_0 (t0 x) (t2 x) (t3 x) (t18 x) (t19 x) (t20 x) (m x))) : Tri Tryz.prog KK 87 0 (.loop c23_0) s (q23_0 R) :=
  Tri.weak hw (Tri.loops fol I (fun x => h23_0 (t0 x) (t2 x) (t3 x) (t18 x) (t19 x) (t20 x) (m x)) μ (fun x hx => (B23_0_eq (t0 x) (t2 x) (t3 x) (t18 x) (t19 x) (t20 x) (m x) R _).mpr (step x hx)) x hx)
noncomputable def B23_0_0 (t0 : AV) (t2 : Int) (t3 : AV) (t4 : Int) (t18 : AV) (t19 : Int) (t20 : Int) (t41 : AV) (t42 : Int) (t43 : Int) (b100004_0 : ByteArray) (b100004_1 : AV) (m : Mem) (R : AV → Mem → Prop) (N0 : St → Prop) (N1 : St → Prop) : Prop :=
bif (decide (t43 < t42)) then (
opP (idxS 3 t41 (intA t43)) fun v17 =>
opP (ldA (mget ((100004, some ⟨[(AV.sc (.string b100004_0)), b100004_1], 83⟩) :: m)) 3 v17) fun v18 =>
exA3 v18 fun c19 c20 c21 =>
ex_i64 c20 fun z22 =>
ex_i64 c21 fun z23 =>
chk (isCell c19) <| callQ Tryz.prog KK.gl ((200003, some ⟨[c19, (intA z22), (intA z23)], 79⟩) :: (200003, some ⟨[AV.nils, (intA (0)), (intA (0))], 79⟩) :: (100004, some ⟨[(AV.sc (.string b100004_0)), b100004_1], 83⟩) :: m) 35 [(AV.agg [c19, (intA z22), (intA z23)])] fun v24 =>
ex_i64 v24 fun z25 =>
bif (z25 != (0)) then (
retL R ((200003, some ⟨[c19, (intA z22), (intA z23)], 79⟩) :: (200003, some ⟨[AV.nils, (intA (0)), (intA (0))], 79⟩) :: (100004, some ⟨[(AV.sc (.string b100004_0)), b100004_1], 83⟩) :: m) [some (intA z25)]) else (
N1 ⟨[(0, t0), (2, (intA t2)), (3, t3), (4, (intA t4)), (5, (AV.ptr 100004 0)), (18, t18), (19, (intA t19)), (20, (intA t20)), (41, t41), (42, (intA t42)), (43, (intA (IntKind.wrap .i64 (t43 + (1))))), (44, (boolA (decide (t43 < t42)))), (45, v17), (46, (AV.agg [c19, (intA z22), (intA z23)])), (7, (AV.ptr 200003 0)), (47, (AV.agg [c19, (intA z22), (intA z23)])), (48, (intA z25)), (8, (intA z25)), (49, (intA z25)), (50, (boolA (z25 != (0)))), (52, (intA (IntKind.wrap .i64 (t43 + (1)))))], ((200003, some ⟨[c19, (intA z22), (intA z23)], 79⟩) :: (200003, some ⟨[AV.nils, (intA (0)), (intA (0))], 79⟩) :: (100004, some ⟨[(AV.sc (.string b100004_0)), b100004_1], 83⟩) :: m), 200075⟩)) else (
opP (opA Tryz.prog (.slice 22 (.tmp 0) none (some (.tmp 1)) none) 22 [t0, (intA t4)] (mget ((100004, some ⟨[(AV.sc (.string b100004_0)), b100004_1], 83⟩) :: m)) 200003) fun v26 =>
callQ Tryz.prog KK.gl ((100004, some ⟨[(AV.sc (.string b100004_0)), b100004_1], 83⟩) :: m) 36 [v26, (AV.fn 37 [(AV.ptr 100004 0)])] fun v27 =>
exB v27 fun b28 =>
bif b28 then (
retL R ((100004, some ⟨[(AV.sc (.string b100004_0)), b100004_1], 83⟩) :: m) [some (intA (7))]) else (
opN (app (mget ((100004, some ⟨[(AV.sc (.string b100004_0)), b100004_1], 83⟩) :: m)) 79 3 40 [AV.nils, (intA (0)), (intA (0))] 200072 t3 b100004_1) ((100004, some ⟨[(AV.sc (.string b100004_0)), b100004_1], 83⟩) :: m) fun v29 m29 =>
N0 ⟨[(0, t0), (2, (intA t2)), (3, v29), (4, (intA t4)), (5, (AV.ptr 100004 0)), (18, t18), (19, (intA t19)), (20, (intA (IntKind.wrap .i64 (t20 + (1))))), (41, t41), (42, (intA t42)), (43, (intA t43)), (44, (boolA (decide (t43 < t42)))), (53, t0), (54, (intA t4)), (55, v26), (56, (AV.fn 37 [(AV.ptr 100004 0)])), (57, (boolA b28)), (58, t3), (59, (AV.ptr 100004 1)), (60, b100004_1), (61, v29), (62, (intA (IntKind.wrap .i64 (t20 + (1)))))], m29, 200076⟩))
theorem B23_0_0_eq (t0 : AV) (t2 : Int) (t3 : AV) (t4 : Int) (t18 : AV) (t19 : Int) (t20 : Int) (t41 : AV) (t42 : Int) (t43 : Int) (b100004_0 : ByteArray) (b100004_1 : AV) (m : Mem) (R : AV → Mem → Prop) (N0 : St → Prop) (N1 : St → Prop) : W Tryz.prog KK 87 0 c23_0_0 (h23_0_0 t0 t2 t3 t4 t18 t19 t20 t41 t42 t43 b100004_0 b100004_1 m) (qq23_0_0 R N0 N1) = B23_0_0 t0 t2 t3 t4 t18 t19 t20 t41 t42 t43 b100004_0 b100004_1 m R N0 N1 := by kernel_rfl
theorem L23_0_0 (R : AV → Mem → Prop) (N0 : St → Prop) {σ : Type} (I : σ → Prop) (t0 : σ → AV) (t2 : σ → Int) (t3 : σ → AV) (t4 : σ → Int) (t18 : σ → AV) (t19 : σ → Int) (t20 : σ → Int) (t41 : σ → AV) (t42 : σ → Int) (t43 : σ → Int) (b100004_0 : σ → ByteArray) (b100004_1 : σ → AV) (m : σ → Mem) (μ : σ → Nat) (step : ∀ x, I x → B23_0_0 (t0 x) (t2 x) (t3 x) (t4 x) (t18 x) (t19 x) (t20 x) (t41 x) (t42 x) (t43 x) (b100004_0 x) (b100004_1 x) (m x) R N0 (fun s' => ∃ y, I y ∧ μ y < μ x ∧ Weak KK 87 0 s' (h23_0_0 (t0 y) (t2 y) (t3 y) (t4 y) (t18 y) (t19 y) (t20 y) (t41 y) (t42 y) (t43 y) (b100004_0 y) (b100004_1 y) (m y)))) (x : σ) (hx : I x) {s : St} (hw : Weak KK 87 0 s (h23_0_0 (t0 x) (t2 x) (t3 x) (t4 x) (t18 x) (t19 x) (t20 x) (t41 x) (t42 x) (t43 x) (b100004_0 x) (b100004_1 x) (m x))) : Tri Tryz.prog KK 87 0 (.loop c23_0_0) s (q23_0_0 R N0) :=
  Tri.weak hw (Tri.loops fol I (fun x => h23_0_0 (t0 x) (t2 x) (t3 x) (t4 x) (t18 x) (t19 x) (t20 x) (t41 x) (t42 x) (t43 x) (b100004_0 x) (b100004_1 x) (m x)) μ (fun x hx => (B23_0_0_eq (t0 x) (t2 x) (t3 x) (t4 x) (t18 x) (t19 x) (t20 x) (t41 x) (t42 x) (t43 x) (b100004_0 x) (b100004_1 x) (m x) R N0 _).mpr (step x hx)) x hx)
noncomputable def B23_1 (t2 : Int) (t3 : AV) (t63 : AV) (t64 : Int) (t65 : Int) (m : Mem) (R : AV → Mem → Prop) (N0 : St → Prop) : Prop :=
bif (decide (t65 < t64)) then (
opP (idxS 3 t63 (intA t65)) fun v32 =>
opP (ldA (mget m) 3 v32) fun v33 =>
exA3 v33 fun c34 c35 c36 =>
ex_i64 c35 fun z37 =>
ex_i64 c36 fun z38 =>
chk (isCell c34) <| opP (opA Tryz.prog (.slice 81 (.tmp 0) none (some (.tmp 1)) none) 81 [t3, (intA t65)] (mget ((200004, some ⟨[c34, (intA z37), (intA z38)], 79⟩) :: (200004, some ⟨[AV.nils, (intA (0)), (intA (0))], 79⟩) :: m)) 200009) fun v39 =>
opP (lenS v39) fun v40 =>
ex_i64 v40 fun z41 =>
Tri Tryz.prog KK 87 0 (.loop c23_1_0) ⟨[(2, (intA t2)), (3, t3), (63, t63), (64, (intA t64)), (65, (intA t65)), (66, (boolA (decide (t65 < t64)))), (67, (intA t65)), (68, v32), (69, (AV.agg [c34, (intA z37), (intA z38)])), (10, (AV.ptr 200004 0)), (9, (intA t65)), (70, t3), (71, (intA t65)), (72, v39), (73, (intA z41)), (74, (intA (0)))], ((200004, some ⟨[c34, (intA z37), (intA z38)], 79⟩) :: (200004, some ⟨[AV.nils, (intA (0)), (intA (0))], 79⟩) :: m), 200012⟩ (q23_1_0 R N0)) else (
retL R m [some (intA (0))])
theorem B23_1_eq (t2 : Int) (t3 : AV) (t63 : AV) (t64 : Int) (t65 : Int) (m : Mem) (R : AV → Mem → Prop) (N0 : St → Prop) : W Tryz.prog KK 87 0 c23_1 (h23_1 t2 t3 t63 t64 t65 m) (qq23_1 R N0) = B23_1 t2 t3 t63 t64 t65 m R N0 := by kernel_rfl
theorem L23_1 (R : AV → Mem → Prop) {σ : Type} (I : σ → Prop) (t2 : σ → Int) (t3 : σ → AV) (t63 : σ → AV) (t64 : σ → Int) (t65 : σ → Int) (m : σ → Mem) (μ : σ → Nat) (step : ∀ x, I x → B23_1 (t2 x) (t3 x) (t63 x) (t64 x) (t65 x) (m x) R (fun s' => ∃ y, I y ∧ μ y < μ x ∧ Weak KK 87 0 s' (h23_1 (t2 y) (t3 y) (t63 y) (t64 y) (t65 y) (m y)))) (x : σ) (hx : I x) {s : St} (hw : Weak KK 87 0 s (h23_1 (t2 x) (t3 x) (t63 x) (t64 x) (t65 x) (m x))) : Tri Tryz.prog KK 87 0 (.loop c23_1) s (q23_1 R) :=
  Tri.weak hw (Tri.loops fol I (fun x => h23_1 (t2 x) (t3 x) (t63 x) (t64 x) (t65 x) (m x)) μ (fun x hx => (B23_1_eq (t2 x) (t3 x) (t63 x) (t64 x) (t65 x) (m x) R _).mpr (step x hx)) x hx)
noncomputable def B23_1_0 (t2 : Int) (t3 : AV) (t63 : AV) (t64 : Int) (t65 : Int) (t72 : AV) (t73 : Int) (t74 : Int) (b200004_0 : AV) (b200004_1 : Int) (b200004_2 : Int) (m : Mem) (R : AV → Mem → Prop) (N0 : St → Prop) (N1 : St → Prop) : Prop :=
bif (decide (t74 < t73)) then (
opP (idxS 3 t72 (intA t74)) fun v42 =>
opP (ldA (mget ((200004, some ⟨[b200004_0, (intA b200004_1), (intA b200004_2)], 79⟩) :: m)) 3 v42) fun v43 =>
exA3 v43 fun c44 c45 c46 =>
ex_i64 c45 fun z47 =>
ex_i64 c46 fun z48 =>
chk (isCell c44) <| callQ Tryz.prog KK.gl ((300003, some ⟨[c44, (intA z47), (intA z48)], 79⟩) :: (300003, some ⟨[AV.nils, (intA (0)), (intA (0))], 79⟩) :: (200004, some ⟨[b200004_0, (intA b200004_1), (intA b200004_2)], 79⟩) :: m) 38 [(AV.agg [b200004_0, (intA b200004_1), (intA b200004_2)]), (AV.agg [c44, (intA z47), (intA z48)])] fun v49 =>
exT2 v49 fun c50 c51 =>
exB c50 fun b52 =>
ex_i64 c51 fun z53 =>
bif b52 then (
retL R ((300003, some ⟨[c44, (intA z47), (intA z48)], 79⟩) :: (300003, some ⟨[AV.nils, (intA (0)), (intA (0))], 79⟩) :: (200004, some ⟨[b200004_0, (intA b200004_1), (intA b200004_2)], 79⟩) :: m) [some (intA (19))]) else (
N1 ⟨[(2, (intA t2)), (3, t3), (10, (AV.ptr 200004 0)), (63, t63), (64, (intA t64)), (65, (intA t65)), (72, t72), (73, (intA t73)), (74, (intA (IntKind.wrap .i64 (t74 + (1))))), (75, (boolA (decide (t74 < t73)))), (76, v42), (77, (AV.agg [c44, (intA z47), (intA z48)])), (12, (AV.ptr 300003 0)), (79, (AV.agg [b200004_0, (intA b200004_1), (intA b200004_2)])), (80, (AV.agg [c44, (intA z47), (intA z48)])), (81, (AV.tup [(boolA b52), (intA z53)])), (78, (AV.tup [(boolA b52), (intA z53)])), (82, (boolA b52)), (83, (intA z53)), (13, (boolA b52)), (14, (intA z53)), (84, (boolA b52)), (85, (intA (IntKind.wrap .i64 (t74 + (1)))))], ((300003, some ⟨[c44, (intA z47), (intA z48)], 79⟩) :: (300003, some ⟨[AV.nils, (intA (0)), (intA (0))], 79⟩) :: (200004, some ⟨[b200004_0, (intA b200004_1), (intA b200004_2)], 79⟩) :: m), 300079⟩)) else (
N0 ⟨[(2, (intA t2)), (3, t3), (10, (AV.ptr 200004 0)), (63, t63), (64, (intA t64)), (65, (intA (IntKind.wrap .i64 (t65 + (1))))), (72, t72), (73, (intA t73)), (74, (intA t74)), (75, (boolA (decide (t74 < t73)))), (86, (intA (IntKind.wrap .i64 (t65 + (1)))))], ((200004, some ⟨[b200004_0, (intA b200004_1), (intA b200004_2)], 79⟩) :: m), 300003⟩)
theorem B23_1_0_eq (t2 : Int) (t3 : AV) (t63 : AV) (t64 : Int) (t65 : Int) (t72 : AV) (t73 : Int) (t74 : Int) (b200004_0 : AV) (b200004_1 : Int) (b200004_2 : Int) (m : Mem) (R : AV → Mem → Prop) (N0 : St → Prop) (N1 : St → Prop) : W Tryz.prog KK 87 0 c23_1_0 (h23_1_0 t2 t3 t63 t64 t65 t72 t73 t74 b200004_0 b200004_1 b200004_2 m) (qq23_1_0 R N0 N1) = B23_1_0 t2 t3 t63 t64 t65 t72 t73 t74 b200004_0 b200004_1 b200004_2 m R N0 N1 := by kernel_rfl
theorem L23_1_0 (R : AV → Mem → Prop) (N0 : St → Prop) {σ : Type} (I : σ → Prop) (t2 : σ → Int) (t3 : σ → AV) (t63 : σ → AV) (t64 : σ → Int) (t65 : σ → Int) (t72 : σ → AV) (t73 : σ → Int) (t74 : σ → Int) (b200004_0 : σ → AV) (b200004_1 : σ → Int) (b200004_2 : σ → Int) (m : σ → Mem) (μ : σ → Nat) (step : ∀ x, I x → B23_1_0 (t2 x) (t3 x) (t63 x) (t64 x) (t65 x) (t72 x) (t73 x) (t74 x) (b200004_0 x) (b200004_1 x) (b200004_2 x) (m x) R N0 (fun s' => ∃ y, I y ∧ μ y < μ x ∧ Weak KK 87 0 s' (h23_1_0 (t2 y) (t3 y) (t63 y) (t64 y) (t65 y) (t72 y) (t73 y) (t74 y) (b200004_0 y) (b200004_1 y) (b200004_2 y) (m y)))) (x : σ) (hx : I x) {s : St} (hw : Weak KK 87 0 s (h23_1_0 (t2 x) (t3 x) (t63 x) (t64 x) (t65 x) (t72 x) (t73 x) (t74 x) (b200004_0 x) (b200004_1 x) (b200004_2 x) (m x))) : Tri Tryz.prog KK 87 0 (.loop c23_1_0) s (q23_1_0 R N0) :=
  Tri.weak hw (Tri.loops fol I (fun x => h23_1_0 (t2 x) (t3 x) (t63 x) (t64 x) (t65 x) (t72 x) (t73 x) (t74 x) (b200004_0 x) (b200004_1 x) (b200004_2 x) (m x)) μ (fun x hx => (B23_1_0_eq (t2 x) (t3 x) (t63 x) (t64 x) (t65 x) (t72 x) (t73 x) (t74 x) (b200004_0 x) (b200004_1 x) (b200004_2 x) (m x) R N0 _).mpr (step x hx)) x hx)
noncomputable def F23 (a0 : AV) (R : AV → Mem → Prop) : Prop :=
opP (lenS a0) fun v0 =>
ex_i64 v0 fun z1 =>
bif (decide (z1 > (12))) then (
retL R [] [some (intA (2))]) else (
opP (lenS a0) fun v2 =>
ex_i64 v2 fun z3 =>
Tri Tryz.prog KK 87 0 (.loop c23_0) ⟨[(0, a0), (2, (intA (0))), (15, a0), (16, (intA z1)), (17, (boolA (decide (z1 > (12))))), (3, AV.nils), (18, a0), (19, (intA z3)), (20, (intA (0)))], [], 8⟩ (q23_0 R))
theorem F23_own (a0 : AV) (R : AV → Mem → Prop) (h : F23 a0 R) : Own Tryz.prog KK.gl 23 [a0] R := own_of_F fol Tryz.func23 (code := c23) (by kernel_rfl) (by kernel_rfl) (by kernel_rfl) (X := F23 a0 R) (by kernel_rfl) h
/- skyway/sector.Path -/
noncomputable def c8 : Code := ((Tryz.f8).body).getD .skip
noncomputable def q8 (R : AV → Mem → Prop) : AExit → St → Prop := retQ Tryz.prog Tryz.f8 R
noncomputable def F8 (a0 : AV) (a1 : AV) (R : AV → Mem → Prop) : Prop :=
callQ Tryz.prog KK.gl [] 23 [a0] fun v0 =>
ex_i64 v0 fun z1 =>
bif (z1 != (0)) then (
retL R [] [some AV.nils, some (intA z1)]) else (
callQ Tryz.prog KK.gl [] 21 [a1] fun v2 =>
ex_i64 v2 fun z3 =>
bif (z3 != (0)) then (
retL R [] [some AV.nils, some (intA z3)]) else (
opP (lenS a1) fun v4 =>
ex_i64 v4 fun z5 =>
opP (idxS 6 a1 (intA (IntKind.wrap .i64 (z5 - (1))))) fun v6 =>
opP (fldO 0 v6) fun v7 =>
opP (fldO 0 v7) fun v8 =>
opP (ldS (mget []) v8) fun v9 =>
ex_i64 v9 fun z10 =>
opP (idxS 6 a1 (intA (0))) fun v11 =>
opP (fldO 0 v11) fun v12 =>
opP (fldO 0 v12) fun v13 =>
opP (ldS (mget []) v13) fun v14 =>
ex_i64 v14 fun z15 =>
bif (decide ((IntKind.wrap .i64 (z10 - z15)) > (20000))) then (
retL R [] [some AV.nils, some (intA (2))]) else (
callQ Tryz.prog KK.gl [] 24 [a0, a1] fun v16 =>
retL R [] [some v16, some (intA (0))])))
/- skyway/skywaykeep3.small -/
noncomputable def c6 : Code := ((Tryz.f6).body).getD .skip
noncomputable def q6 (R : AV → Mem → Prop) : AExit → St → Prop := retQ Tryz.prog Tryz.f6 R
noncomputable def c6_0 : Code := loopB c6 0
noncomputable def q6_0 (R : AV → Mem → Prop) : AExit → St → Prop := contW Tryz.prog KK 41 0 c6 0 (q6 R)
noncomputable def qq6_0 (R : AV → Mem → Prop) (N0 : St → Prop) : AExit → St → Prop := thenQ N0 (q6_0 R)
def h6_0 (t2 : Int) (t6 : Bool) (t13 : AV) (t14 : Int) (t15 : Int) (m : Mem) : St := ⟨[(2, (intA t2)), (6, (boolA t6)), (13, t13), (14, (intA t14)), (15, (intA t15))], m, 100000⟩
noncomputable def B6_0 (t2 : Int) (t6 : Bool) (t13 : AV) (t14 : Int) (t15 : Int) (m : Mem) (R : AV → Mem → Prop) (N0 : St → Prop) : Prop :=
bif (decide (t15 < t14)) then (
opP (idxS 1 t13 (intA t15)) fun v4 =>
opP (ldS (mget m) v4) fun v5 =>
callQ Tryz.prog KK.gl m 21 [v5] fun v6 =>
ex_i64 v6 fun z7 =>
bif (z7 != (0)) then (
retL R m [some (boolA false)]) else (
opP (lenS v5) fun v8 =>
ex_i64 v8 fun z9 =>
opP (idxS 6 v5 (intA (IntKind.wrap .i64 (z9 - (1))))) fun v10 =>
opP (fldO 0 v10) fun v11 =>
opP (fldO 0 v11) fun v12 =>
opP (ldS (mget m) v12) fun v13 =>
ex_i64 v13 fun z14 =>
opP (idxS 6 v5 (intA (0))) fun v15 =>
opP (fldO 0 v15) fun v16 =>
opP (fldO 0 v16) fun v17 =>
opP (ldS (mget m) v17) fun v18 =>
ex_i64 v18 fun z19 =>
bif (decide ((IntKind.wrap .i64 (z14 - z19)) > t2)) then (
retL R m [some (boolA false)]) else (
N0 ⟨[(2, (intA t2)), (6, (boolA t6)), (13, t13), (14, (intA t14)), (15, (intA (IntKind.wrap .i64 (t15 + (1))))), (16, (boolA (decide (t15 < t14)))), (17, v4), (18, v5), (8, v5), (19, v5), (20, (intA z7)), (21, (boolA (z7 != (0)))), (22, (boolA false)), (23, v5), (24, v5), (25, (intA z9)), (26, (intA (IntKind.wrap .i64 (z9 - (1))))), (27, v10), (28, v11), (29, v12), (30, (intA z14)), (31, v5), (32, v15), (33, v16), (34, v17), (35, (intA z19)), (36, (intA (IntKind.wrap .i64 (z14 - z19)))), (37, (intA t2)), (38, (boolA (decide ((IntKind.wrap .i64 (z14 - z19)) > t2)))), (39, (boolA (decide ((IntKind.wrap .i64 (z14 - z19)) > t2)))), (40, (intA (IntKind.wrap .i64 (t15 + (1)))))], m, 100027⟩))) else (
retL R m [some (boolA true)])
theorem B6_0_eq (t2 : Int) (t6 : Bool) (t13 : AV) (t14 : Int) (t15 : Int) (m : Mem) (R : AV → Mem → Prop) (N0 : St → Prop) : W Tryz.prog KK 41 0 c6_0 (h6_0 t2 t6 t13 t14 t15 m) (qq6_0 R N0) = B6_0 t2 t6 t13 t14 t15 m R N0 := by kernel_rfl
theorem L6_0 (R : AV → Mem → Prop) {σ : Type} (I : σ → Prop) (t2 : σ → Int) (t6 : σ → Bool) (t13 : σ → AV) (t14 : σ → Int) (t15 : σ → Int) (m : σ → Mem) (μ : σ → Nat) (step : ∀ x, I x → B6_0 (t2 x) (t6 x) (t13 x) (t14 x) (t15 x) (m x) R (fun s' => ∃ y, I y ∧ μ y < μ x ∧ Weak KK 41 0 s' (h6_0 (t2 y) (t6 y) (t13 y) (t14 y) (t15 y) (m y)))) (x : σ) (hx : I x) {s : St} (hw : Weak KK 41 0 s (h6_0 (t2 x) (t6 x) (t13 x) (t14 x) (t15 x) (m x))) : Tri Tryz.prog KK 41 0 (.loop c6_0) s (q6_0 R) :=
  Tri.weak hw (Tri.loops fol I (fun x => h6_0 (t2 x) (t6 x) (t13 x) (t14 x) (t15 x) (m x)) μ (fun x hx => (B6_0_eq (t2 x) (t6 x) (t13 x) (t14 x) (t15 x) (m x) R _).mpr (step x hx)) x hx)
noncomputable def F6 (a0 : AV) (a1 : Int) (a2 : Int) (R : AV → Mem → Prop) : Prop :=
opP (lenS a0) fun v0 =>
ex_i64 v0 fun z1 =>
bif (decide (z1 > a1)) then (
retL R [] [some (boolA false)]) else (
opP (lenS a0) fun v2 =>
ex_i64 v2 fun z3 =>
Tri Tryz.prog KK 41 0 (.loop c6_0) ⟨[(0, a0), (1, (intA a1)), (2, (intA a2)), (6, (boolA false)), (9, a0), (10, (intA z1)), (11, (intA a1)), (12, (boolA (decide (z1 > a1)))), (13, a0), (14, (intA z3)), (15, (intA (0)))], [], 8⟩ (q6_0 R))
theorem F6_own (a0 : AV) (a1 : Int) (a2 : Int) (R : AV → Mem → Prop) (h : F6 a0 a1 a2 R) : Own Tryz.prog KK.gl 6 [a0, (intA a1), (intA a2)] R := own_of_F fol Tryz.func6 (code := c6) (by kernel_rfl) (by kernel_rfl) (by kernel_rfl) (X := F6 a0 a1 a2 R) (by kernel_rfl) h
/- skyway/load.check -/
noncomputable def c22 : Code := ((Tryz.f22).body).getD .skip
noncomputable def q22 (R : AV → Mem → Prop) : AExit → St → Prop := retQ Tryz.prog Tryz.f22 R
noncomputable def c22_0 : Code := loopB c22 0
noncomputable def q22_0 (R : AV → Mem → Prop) : AExit → St → Prop := contW Tryz.prog KK 29 0 c22 0 (q22 R)
noncomputable def qq22_0 (R : AV → Mem → Prop) (N0 : St → Prop) : AExit → St → Prop := thenQ N0 (q22_0 R)
def h22_0 (t4 : Int) (t17 : AV) (t18 : Int) (t19 : Int) (m : Mem) : St := ⟨[(4, (intA t4)), (17, t17), (18, (intA t18)), (19, (intA t19))], m, 100000⟩
noncomputable def B22_0 (t4 : Int) (t17 : AV) (t18 : Int) (t19 : Int) (m : Mem) (R : AV → Mem → Prop) (N0 : St → Prop) : Prop :=
bif (decide (t19 < t18)) then (
opP (idxS 1 t17 (intA t19)) fun v6 =>
opP (ldS (mget m) v6) fun v7 =>
callQ Tryz.prog KK.gl m 21 [v7] fun v8 =>
ex_i64 v8 fun z9 =>
bif (z9 != (0)) then (
retL R m [some (intA z9)]) else (
N0 ⟨[(4, (intA t4)), (17, t17), (18, (intA t18)), (19, (intA (IntKind.wrap .i64 (t19 + (1))))), (20, (boolA (decide (t19 < t18)))), (21, v6), (22, v7), (7, v7), (23, v7), (24, (intA z9)), (8, (intA z9)), (25, (intA z9)), (26, (boolA (z9 != (0)))), (28, (intA (IntKind.wrap .i64 (t19 + (1)))))], m, 100074⟩)) else (
retL R m [some (intA (0))])
theorem B22_0_eq (t4 : Int) (t17 : AV) (t18 : Int) (t19 : Int) (m : Mem) (R : AV → Mem → Prop) (N0 : St → Prop) : W Tryz.prog KK 29 0 c22_0 (h22_0 t4 t17 t18 t19 m) (qq22_0 R N0) = B22_0 t4 t17 t18 t19 m R N0 := by kernel_rfl
theorem L22_0 (R : AV → Mem → Prop) {σ : Type} (I : σ → Prop) (t4 : σ → Int) (t17 : σ → AV) (t18 : σ → Int) (t19 : σ → Int) (m : σ → Mem) (μ : σ → Nat) (step : ∀ x, I x → B22_0 (t4 x) (t17 x) (t18 x) (t19 x) (m x) R (fun s' => ∃ y, I y ∧ μ y < μ x ∧ Weak KK 29 0 s' (h22_0 (t4 y) (t17 y) (t18 y) (t19 y) (m y)))) (x : σ) (hx : I x) {s : St} (hw : Weak KK 29 0 s (h22_0 (t4 x) (t17 x) (t18 x) (t19 x) (m x))) : Tri Tryz.prog KK 29 0 (.loop c22_0) s (q22_0 R) :=
  Tri.weak hw (Tri.loops fol I (fun x => h22_0 (t4 x) (t17 x) (t18 x) (t19 x) (m x)) μ (fun x hx => (B22_0_eq (t4 x) (t17 x) (t18 x) (t19 x) (m x) R _).mpr (step x hx)) x hx)
noncomputable def F22 (a0 : AV) (a1 : AV) (R : AV → Mem → Prop) : Prop :=
callQ Tryz.prog KK.gl [] 23 [a0] fun v0 =>
ex_i64 v0 fun z1 =>
bif (z1 != (0)) then (
retL R [] [some (intA z1)]) else (
opP (lenS a1) fun v2 =>
ex_i64 v2 fun z3 =>
bif (decide (z3 > (24))) then (
retL R [] [some (intA (2))]) else (
opP (lenS a1) fun v4 =>
ex_i64 v4 fun z5 =>
Tri Tryz.prog KK 29 0 (.loop c22_0) ⟨[(0, a0), (1, a1), (4, (intA (0))), (9, a0), (10, (intA z1)), (5, (intA z1)), (11, (intA z1)), (12, (boolA (z1 != (0)))), (14, a1), (15, (intA z3)), (16, (boolA (decide (z3 > (24))))), (17, a1), (18, (intA z5)), (19, (intA (0)))], [], 75⟩ (q22_0 R)))
theorem F22_own (a0 : AV) (a1 : AV) (R : AV → Mem → Prop) (h : F22 a0 a1 R) : Own Tryz.prog KK.gl 22 [a0, a1] R := own_of_F fol Tryz.func22 (code := c22) (by kernel_rfl) (by kernel_rfl) (by kernel_rfl) (X := F22 a0 a1 R) (by kernel_rfl) h
/- skyway/load.checkSpan -/
noncomputable def c26 : Code := ((Tryz.f26).body).getD .skip
noncomputable def q26 (R : AV → Mem → Prop) : AExit → St → Prop := retQ Tryz.prog Tryz.f26 R
noncomputable def F26 (a0_0 : Int) (a0_1 : Int) (R : AV → Mem → Prop) : Prop :=
bif (decide (a0_0 < (0))) then (
retL R ((0, some ⟨[(intA a0_0), (intA a0_1)], 41⟩) :: []) [some (intA (12))]) else (
bif (decide (a0_1 > (200001))) then (
retL R ((0, some ⟨[(intA a0_0), (intA a0_1)], 41⟩) :: []) [some (intA (12))]) else (
bif (decide (a0_0 ≥ a0_1)) then (
retL R ((0, some ⟨[(intA a0_0), (intA a0_1)], 41⟩) :: []) [some (intA (12))]) else (
bif (decide ((IntKind.wrap .i64 (a0_1 - a0_0)) > (2000))) then (
retL R ((0, some ⟨[(intA a0_0), (intA a0_1)], 41⟩) :: []) [some (intA (2))]) else (
retL R ((0, some ⟨[(intA a0_0), (intA a0_1)], 41⟩) :: []) [some (intA (0))]))))
theorem F26_own (a0_0 : Int) (a0_1 : Int) (R : AV → Mem → Prop) (h : F26 a0_0 a0_1 R) : Own Tryz.prog KK.gl 26 [(AV.agg [(intA a0_0), (intA a0_1)])] R := own_of_F fol Tryz.func26 (code := c26) (by kernel_rfl) (by kernel_rfl) (by kernel_rfl) (X := F26 a0_0 a0_1 R) (by kernel_rfl) h
/- skyway/load.count -/
noncomputable def c28 : Code := ((Tryz.f28).body).getD .skip
noncomputable def q28 (R : AV → Mem → Prop) : AExit → St → Prop := retQ Tryz.prog Tryz.f28 R
noncomputable def c28_0 : Code := loopB c28 0
noncomputable def q28_0 (R : AV → Mem → Prop) : AExit → St → Prop := contW Tryz.prog KK 53 0 c28 0 (q28 R)
noncomputable def qq28_0 (R : AV → Mem → Prop) (N0 : St → Prop) : AExit → St → Prop := thenQ N0 (q28_0 R)
def h28_0 (t0 : AV) (t2 : Int) (t6 : AV) (t7 : Int) (t8 : AV) (t9 : Int) (t18 : AV) (t19 : Int) (t20 : Int) (m : Mem) : St := ⟨[(0, t0), (2, (intA t2)), (6, t6), (7, (intA t7)), (8, t8), (9, (intA t9)), (18, t18), (19, (intA t19)), (20, (intA t20))], m, 100000⟩
noncomputable def B28_0 (t0 : AV) (t2 : Int) (t6 : AV) (t7 : Int) (t8 : AV) (t9 : Int) (t18 : AV) (t19 : Int) (t20 : Int) (m : Mem) (R : AV → Mem → Prop) (N0 : St → Prop) : Prop :=
bif (decide (t20 < t19)) then (
opP (idxS 1 t18 (intA t20)) fun v5 =>
opP (ldS (mget m) v5) fun v6 =>
callQ Tryz.prog KK.gl m 42 [v6, (intA t2)] fun v7 =>
exT2 v7 fun c8 c9 =>
exA6 c8 fun c10 c11 c12 c13 c14 c15 =>
ex_i64 c10 fun z16 =>
ex_i64 c11 fun z17 =>
ex_i64 c12 fun z18 =>
ex_i64 c13 fun z19 =>
ex_i64 c14 fun z20 =>
ex_i64 c15 fun z21 =>
ex_i64 c9 fun z22 =>
bif (z22 != (0)) then (
N0 ⟨[(0, t0), (2, (intA t2)), (6, t6), (7, (intA t7)), (8, t8), (9, (intA t9)), (18, t18), (19, (intA t19)), (20, (intA (IntKind.wrap .i64 (t20 + (1))))), (21, (boolA (decide (t20 < t19)))), (22, v5), (23, v6), (11, v6), (25, v6), (26, (intA t2)), (27, (AV.tup [(AV.agg [(intA z16), (intA z17), (intA z18), (intA z19), (intA z20), (intA z21)]), (intA z22)])), (24, (AV.tup [(AV.agg [(intA z16), (intA z17), (intA z18), (intA z19), (intA z20), (intA z21)]), (intA z22)])), (28, (AV.agg [(intA z16), (intA z17), (intA z18), (intA z19), (intA z20), (intA z21)])), (29, (intA z22)), (12, (AV.ptr 100073 0)), (13, (intA z22)), (30, (intA z22)), (31, (boolA (z22 != (0)))), (50, (intA (IntKind.wrap .i64 (t20 + (1)))))], ((100073, some ⟨[(intA z16), (intA z17), (intA z18), (intA z19), (intA z20), (intA z21)], 64⟩) :: (100073, some ⟨[(intA (0)), (intA (0)), (intA (0)), (intA (0)), (intA (0)), (intA (0))], 64⟩) :: m), 100080⟩) else (
callQ Tryz.prog KK.gl ((100073, some ⟨[(intA z16), (intA z17), (intA z18), (intA z19), (intA z20), (intA z21)], 64⟩) :: (100073, some ⟨[(intA (0)), (intA (0)), (intA (0)), (intA (0)), (intA (0)), (intA (0))], 64⟩) :: m) 40 [t0, (AV.agg [(intA z17), (intA z18)]), (intA z19)] fun v23 =>
ex_i64 v23 fun z24 =>
bif (decide (z24 ≥ (0))) then (
opP (idxS 1 t8 (intA z24)) fun v25 =>
opP (ldS (mget ((100073, some ⟨[(intA z16), (intA z17), (intA z18), (intA z19), (intA z20), (intA z21)], 64⟩) :: (100073, some ⟨[(intA (0)), (intA (0)), (intA (0)), (intA (0)), (intA (0)), (intA (0))], 64⟩) :: m)) v25) fun v26 =>
ex_i64 v26 fun z27 =>
opP (idxS 1 t8 (intA z24)) fun v28 =>
storeW Tryz.prog (mget ((100073, some ⟨[(intA z16), (intA z17), (intA z18), (intA z19), (intA z20), (intA z21)], 64⟩) :: (100073, some ⟨[(intA (0)), (intA (0)), (intA (0)), (intA (0)), (intA (0)), (intA (0))], 64⟩) :: m)) 3 v28 (intA (IntKind.wrap .i64 (z27 + (1)))) fun v29 d29 =>
N0 ⟨[(0, t0), (2, (intA t2)), (6, t6), (7, (intA t7)), (8, t8), (9, (intA t9)), (18, t18), (19, (intA t19)), (20, (intA (IntKind.wrap .i64 (t20 + (1))))), (21, (boolA (decide (t20 < t19)))), (22, v5), (23, v6), (11, v6), (25, v6), (26, (intA t2)), (27, (AV.tup [(AV.agg [(intA z16), (intA z17), (intA z18), (intA z19), (intA z20), (intA z21)]), (intA z22)])), (24, (AV.tup [(AV.agg [(intA z16), (intA z17), (intA z18), (intA z19), (intA z20), (intA z21)]), (intA z22)])), (28, (AV.agg [(intA z16), (intA z17), (intA z18), (intA z19), (intA z20), (intA z21)])), (29, (intA z22)), (12, (AV.ptr 100073 0)), (13, (intA z22)), (30, (intA z22)), (31, (boolA (z22 != (0)))), (32, t0), (33, (AV.ptr 100073 0)), (34, (AV.ptr 100073 1)), (35, (AV.agg [(intA z17), (intA z18)])), (36, (AV.ptr 100073 0)), (37, (AV.ptr 100073 3)), (38, (intA z19)), (39, (intA z24)), (14, (intA z24)), (40, (intA z24)), (41, (boolA (decide (z24 ≥ (0))))), (42, t8), (43, (intA z24)), (44, v25), (45, (intA z27)), (46, (intA (IntKind.wrap .i64 (z27 + (1))))), (47, v28), (50, (intA (IntKind.wrap .i64 (t20 + (1)))))], (mpushs ((100073, some ⟨[(intA z16), (intA z17), (intA z18), (intA z19), (intA z20), (intA z21)], 64⟩) :: (100073, some ⟨[(intA (0)), (intA (0)), (intA (0)), (intA (0)), (intA (0)), (intA (0))], 64⟩) :: m) d29), 100161⟩) else (
N0 ⟨[(0, t0), (2, (intA t2)), (6, t6), (7, (intA t7)), (8, t8), (9, (intA (IntKind.wrap .i64 (t9 + (1))))), (18, t18), (19, (intA t19)), (20, (intA (IntKind.wrap .i64 (t20 + (1))))), (21, (boolA (decide (t20 < t19)))), (22, v5), (23, v6), (11, v6), (25, v6), (26, (intA t2)), (27, (AV.tup [(AV.agg [(intA z16), (intA z17), (intA z18), (intA z19), (intA z20), (intA z21)]), (intA z22)])), (24, (AV.tup [(AV.agg [(intA z16), (intA z17), (intA z18), (intA z19), (intA z20), (intA z21)]), (intA z22)])), (28, (AV.agg [(intA z16), (intA z17), (intA z18), (intA z19), (intA z20), (intA z21)])), (29, (intA z22)), (12, (AV.ptr 100073 0)), (13, (intA z22)), (30, (intA z22)), (31, (boolA (z22 != (0)))), (32, t0), (33, (AV.ptr 100073 0)), (34, (AV.ptr 100073 1)), (35, (AV.agg [(intA z17), (intA z18)])), (36, (AV.ptr 100073 0)), (37, (AV.ptr 100073 3)), (38, (intA z19)), (39, (intA z24)), (14, (intA z24)), (40, (intA z24)), (41, (boolA (decide (z24 ≥ (0))))), (48, (intA t9)), (49, (intA (IntKind.wrap .i64 (t9 + (1))))), (50, (intA (IntKind.wrap .i64 (t20 + (1)))))], ((100073, some ⟨[(intA z16), (intA z17), (intA z18), (intA z19), (intA z20), (intA z21)], 64⟩) :: (100073, some ⟨[(intA (0)), (intA (0)), (intA (0)), (intA (0)), (intA (0)), (intA (0))], 64⟩) :: m), 100157⟩))) else (
retL R m [some t8, some (intA t9)])
theorem B28_0_eq (t0 : AV) (t2 : Int) (t6 : AV) (t7 : Int) (t8 : AV) (t9 : Int) (t18 : AV) (t19 : Int) (t20 : Int) (m : Mem) (R : AV → Mem → Prop) (N0 : St → Prop) : W Tryz.prog KK 53 0 c28_0 (h28_0 t0 t2 t6 t7 t8 t9 t18 t19 t20 m) (qq28_0 R N0) = B28_0 t0 t2 t6 t7 t8 t9 t18 t19 t20 m R N0 := by kernel_rfl
theorem L28_0 (R : AV → Mem → Prop) {σ : Type} (I : σ → Prop) (t0 : σ → AV) (t2 : σ → Int) (t6 : σ → AV) (t7 : σ → Int) (t8 : σ → AV) (t9 : σ → Int) (t18 : σ → AV) (t19 : σ → Int) (t20 : σ → Int) (m : σ → Mem) (μ : σ → Nat) (step : ∀ x, I x → B28_0 (t0 x) (t2 x) (t6 x) (t7 x) (t8 x) (t9 x) (t18 x) (t19 x) (t20 x) (m x) R (fun s' => ∃ y, I y ∧ μ y < μ x ∧ Weak KK 53 0 s' (h28_0 (t0 y) (t2 y) (t6 y) (t7 y) (t8 y) (t9 y) (t18 y) (t19 y) (t20 y) (m y)))) (x : σ) (hx : I x) {s : St} (hw : Weak KK 53 0 s (h28_0 (t0 x) (t2 x) (t6 x) (t7 x) (t8 x) (t9 x) (t18 x) (t19 x) (t20 x) (m x))) : Tri Tryz.prog KK 53 0 (.loop c28_0) s (q28_0 R) :=
  Tri.weak hw (Tri.loops fol I (fun x => h28_0 (t0 x) (t2 x) (t6 x) (t7 x) (t8 x) (t9 x) (t18 x) (t19 x) (t20 x) (m x)) μ (fun x hx => (B28_0_eq (t0 x) (t2 x) (t6 x) (t7 x) (t8 x) (t9 x) (t18 x) (t19 x) (t20 x) (m x) R _).mpr (step x hx)) x hx)
noncomputable def F28 (a0 : AV) (a1 : AV) (a2 : Int) (R : AV → Mem → Prop) : Prop :=
opP (lenS a0) fun v0 =>
ex_i64 v0 fun z1 =>
opN (mks 4 3 1 8 [(intA (0))] (intA z1) (intA z1)) [] fun v2 m2 =>
opP (lenS a1) fun v3 =>
ex_i64 v3 fun z4 =>
Tri Tryz.prog KK 53 0 (.loop c28_0) ⟨[(0, a0), (1, a1), (2, (intA a2)), (6, AV.nils), (7, (intA (0))), (15, a0), (16, (intA z1)), (17, v2), (8, v2), (9, (intA (0))), (18, a1), (19, (intA z4)), (20, (intA (0)))], m2, 10⟩ (q28_0 R)
theorem F28_own (a0 : AV) (a1 : AV) (a2 : Int) (R : AV → Mem → Prop) (h : F28 a0 a1 a2 R) : Own Tryz.prog KK.gl 28 [a0, a1, (intA a2)] R := own_of_F fol Tryz.func28 (code := c28) (by kernel_rfl) (by kernel_rfl) (by kernel_rfl) (X := F28 a0 a1 a2 R) (by kernel_rfl) h
/- skyway/load.Peaks -/
noncomputable def c11 : Code := ((Tryz.f11).body).getD .skip
noncomputable def q11 (R : AV → Mem → Prop) : AExit → St → Prop := retQ Tryz.prog Tryz.f11 R
noncomputable def c11_0 : Code := loopB c11 0
noncomputable def q11_0 (R : AV → Mem → Prop) : AExit → St → Prop := contW Tryz.prog KK 80 0 c11 0 (q11 R)
noncomputable def qq11_0 (R : AV → Mem → Prop) (N0 : St → Prop) : AExit → St → Prop := thenQ N0 (q11_0 R)
def h11_0 (t0 : AV) (t1 : AV) (t6 : AV) (t7 : AV) (t8 : Int) (t11 : AV) (t12 : AV) (t13 : Int) (m : Mem) : St := ⟨[(0, t0), (1, t1), (5, (AV.ptr 0 0)), (6, t6), (7, t7), (8, (intA t8)), (11, t11), (12, t12), (13, (intA t13))], m, 100000⟩
noncomputable def c11_0_0 : Code := loopB c11_0 0
noncomputable def q11_0_0 (R : AV → Mem → Prop) (N0 : St → Prop) : AExit → St → Prop := contW Tryz.prog KK 80 0 c11_0 0 (qq11_0 R N0)
noncomputable def qq11_0_0 (R : AV → Mem → Prop) (N0 : St → Prop) (N1 : St → Prop) : AExit → St → Prop := thenQ N1 (q11_0_0 R N0)
def h11_0_0 (t0 : AV) (t1 : AV) (t6 : AV) (t7 : AV) (t8 : Int) (t11 : AV) (t12 : AV) (t13 : Int) (t14 : AV) (t53 : Int) (t54 : Int) (m : Mem) : St := ⟨[(0, t0), (1, t1), (5, (AV.ptr 0 0)), (6, t6), (7, t7), (8, (intA t8)), (11, t11), (12, t12), (13, (intA t13)), (14, t14), (53, (intA t53)), (54, (intA t54))], m, 200000⟩
noncomputable def B11_0 (t0 : AV) (t1 : AV) (t6 : AV) (t7 : AV) (t8 : Int) (t11 : AV) (t12 : AV) (t13 : Int) (m : Mem) (R : AV → Mem → Prop) (N0 : St → Prop) : Prop :=
opP (ldS (mget m) (AV.ptr 0 1)) fun v15 =>
ex_i64 v15 fun z16 =>
bif (decide (t13 < z16)) then (
callW Tryz.prog KK.gl m 100007 28 [t0, t1, (intA t13)] fun v17 m17 =>
exT2 v17 fun c18 c19 =>
ex_i64 c19 fun z20 =>
opP (lenS c18) fun v21 =>
ex_i64 v21 fun z22 =>
Tri Tryz.prog KK 80 0 (.loop c11_0_0) ⟨[(0, t0), (1, t1), (5, (AV.ptr 0 0)), (6, t6), (7, t7), (8, (intA t8)), (11, t11), (12, t12), (13, (intA t13)), (39, (intA t13)), (40, (AV.ptr 0 1)), (41, (intA z16)), (42, (boolA (decide (t13 < z16)))), (46, t0), (47, t1), (48, (intA t13)), (49, (AV.tup [c18, (intA z20)])), (45, (AV.tup [c18, (intA z20)])), (50, c18), (51, (intA z20)), (14, c18), (15, (intA z20)), (52, c18), (53, (intA z22)), (54, (intA (0)))], m17, 100079⟩ (q11_0_0 R N0)) else (
retL R m [some t11, some t12, some (intA (0))])
theorem B11_0_eq (t0 : AV) (t1 : AV) (t6 : AV) (t7 : AV) (t8 : Int) (t11 : AV) (t12 : AV) (t13 : Int) (m : Mem) (R : AV → Mem → Prop) (N0 : St → Prop) : W Tryz.prog KK 80 0 c11_0 (h11_0 t0 t1 t6 t7 t8 t11 t12 t13 m) (qq11_0 R N0) = B11_0 t0 t1 t6 t7 t8 t11 t12 t13 m R N0 := by kernel_rfl
theorem L11_0 (R : AV → Mem → Prop) {σ : Type} (I : σ → Prop) (t0 : σ → AV) (t1 : σ → AV) (t6 : σ → AV) (t7 : σ → AV) (t8 : σ → Int) (t11 : σ → AV) (t12 : σ → AV) (t13 : σ → Int) (m : σ → Mem) (μ : σ → Nat) (step : ∀ x, I x → B11_0 (t0 x) (t1 x) (t6 x) (t7 x) (t8 x) (t11 x) (t12 x) (t13 x) (m x) R (fun s' => ∃ y, I y ∧ μ y < μ x ∧ Weak KK 80 0 s' (h11_0 (t0 y) (t1 y) (t6 y) (t7 y) (t8 y) (t11 y) (t12 y) (t13 y) (m y)))) (x : σ) (hx : I x) {s : St} (hw : Weak KK 80 0 s (h11_0 (t0 x) (t1 x) (t6 x) (t7 x) (t8 x) (t11 x) (t12 x) (t13 x) (m x))) : Tri Tryz.prog KK 80 0 (.loop c11_0) s (q11_0 R) :=
  Tri.weak hw (Tri.loops fol I (fun x => h11_0 (t0 x) (t1 x) (t6 x) (t7 x) (t8 x) (t11 x) (t12 x) (t13 x) (m x)) μ (fun x hx => (B11_0_eq (t0 x) (t1 x) (t6 x) (t7 x) (t8 x) (t11 x) (t12 x) (t13 x) (m x) R _).mpr (step x hx)) x hx)
noncomputable def B11_0_0 (t0 : AV) (t1 : AV) (t6 : AV) (t7 : AV) (t8 : Int) (t11 : AV) (t12 : AV) (t13 : Int) (t14 : AV) (t53 : Int) (t54 : Int) (m : Mem) (R : AV → Mem → Prop) (N0 : St → Prop) (N1 : St → Prop) : Prop :=
bif (decide (t54 < t53)) then (
opP (idxS 1 t14 (intA t54)) fun v23 =>
opP (ldS (mget m) v23) fun v24 =>
ex_i64 v24 fun z25 =>
opP (idxS 1 t11 (intA t54)) fun v26 =>
opP (ldS (mget m) v26) fun v27 =>
ex_i64 v27 fun z28 =>
bif (decide (z25 > z28)) then (
opP (idxS 1 t14 (intA t54)) fun v29 =>
opP (ldS (mget m) v29) fun v30 =>
ex_i64 v30 fun z31 =>
opP (idxS 1 t11 (intA t54)) fun v32 =>
storeW Tryz.prog (mget m) 3 v32 (intA z31) fun v33 d33 =>
opP (idxS 1 t12 (intA t54)) fun v34 =>
storeW Tryz.prog (mget (mpushs m d33)) 3 v34 (intA t13) fun v35 d35 =>
N1 ⟨[(0, t0), (1, t1), (5, (AV.ptr 0 0)), (6, t6), (7, t7), (8, (intA t8)), (11, t11), (12, t12), (13, (intA t13)), (14, t14), (53, (intA t53)), (54, (intA (IntKind.wrap .i64 (t54 + (1))))), (55, (boolA (decide (t54 < t53)))), (56, (intA t54)), (16, (intA t54)), (57, t14), (58, (intA t54)), (59, v23), (60, (intA z25)), (61, t11), (62, (intA t54)), (63, v26), (64, (intA z28)), (65, (boolA (decide (z25 > z28)))), (66, t11), (67, (intA t54)), (68, t12), (69, (intA t54)), (70, t14), (71, (intA t54)), (72, v29), (73, (intA z31)), (74, (intA t13)), (75, v32), (76, v34), (77, (intA (IntKind.wrap .i64 (t54 + (1)))))], (mpushs (mpushs m d33) d35), 200027⟩) else (
N1 ⟨[(0, t0), (1, t1), (5, (AV.ptr 0 0)), (6, t6), (7, t7), (8, (intA t8)), (11, t11), (12, t12), (13, (intA t13)), (14, t14), (53, (intA t53)), (54, (intA (IntKind.wrap .i64 (t54 + (1))))), (55, (boolA (decide (t54 < t53)))), (56, (intA t54)), (16, (intA t54)), (57, t14), (58, (intA t54)), (59, v23), (60, (intA z25)), (61, t11), (62, (intA t54)), (63, v26), (64, (intA z28)), (65, (boolA (decide (z25 > z28)))), (77, (intA (IntKind.wrap .i64 (t54 + (1)))))], m, 200014⟩)) else (
N0 ⟨[(0, t0), (1, t1), (5, (AV.ptr 0 0)), (6, t6), (7, t7), (8, (intA t8)), (11, t11), (12, t12), (13, (intA (IntKind.wrap .i64 (t13 + (1))))), (14, t14), (53, (intA t53)), (54, (intA t54)), (55, (boolA (decide (t54 < t53)))), (43, (intA t13)), (44, (intA (IntKind.wrap .i64 (t13 + (1)))))], m, 200004⟩)
theorem B11_0_0_eq (t0 : AV) (t1 : AV) (t6 : AV) (t7 : AV) (t8 : Int) (t11 : AV) (t12 : AV) (t13 : Int) (t14 : AV) (t53 : Int) (t54 : Int) (m : Mem) (R : AV → Mem → Prop) (N0 : St → Prop) (N1 : St → Prop) : W Tryz.prog KK 80 0 c11_0_0 (h11_0_0 t0 t1 t6 t7 t8 t11 t12 t13 t14 t53 t54 m) (qq11_0_0 R N0 N1) = B11_0_0 t0 t1 t6 t7 t8 t11 t12 t13 t14 t53 t54 m R N0 N1 := by kernel_rfl
theorem L11_0_0 (R : AV → Mem → Prop) (N0 : St → Prop) {σ : Type} (I : σ → Prop) (t0 : σ → AV) (t1 : σ → AV) (t6 : σ → AV) (t7 : σ → AV) (t8 : σ → Int) (t11 : σ → AV) (t12 : σ → AV) (t13 : σ → Int) (t14 : σ → AV) (t53 : σ → Int) (t54 : σ → Int) (m : σ → Mem) (μ : σ → Nat) (step : ∀ x, I x → B11_0_0 (t0 x) (t1 x) (t6 x) (t7 x) (t8 x) (t11 x) (t12 x) (t13 x) (t14 x) (t53 x) (t54 x) (m x) R N0 (fun s' => ∃ y, I y ∧ μ y < μ x ∧ Weak KK 80 0 s' (h11_0_0 (t0 y) (t1 y) (t6 y) (t7 y) (t8 y) (t11 y) (t12 y) (t13 y) (t14 y) (t53 y) (t54 y) (m y)))) (x : σ) (hx : I x) {s : St} (hw : Weak KK 80 0 s (h11_0_0 (t0 x) (t1 x) (t6 x) (t7 x) (t8 x) (t11 x) (t12 x) (t13 x) (t14 x) (t53 x) (t54 x) (m x))) : Tri Tryz.prog KK 80 0 (.loop c11_0_0) s (q11_0_0 R N0) :=
  Tri.weak hw (Tri.loops fol I (fun x => h11_0_0 (t0 x) (t1 x) (t6 x) (t7 x) (t8 x) (t11 x) (t12 x) (t13 x) (t14 x) (t53 x) (t54 x) (m x)) μ (fun x hx => (B11_0_0_eq (t0 x) (t1 x) (t6 x) (t7 x) (t8 x) (t11 x) (t12 x) (t13 x) (t14 x) (t53 x) (t54 x) (m x) R N0 _).mpr (step x hx)) x hx)
noncomputable def F11 (a0 : AV) (a1 : AV) (a2_0 : Int) (a2_1 : Int) (R : AV → Mem → Prop) : Prop :=
callQ Tryz.prog KK.gl ((0, some ⟨[(intA a2_0), (intA a2_1)], 41⟩) :: []) 22 [a0, a1] fun v0 =>
ex_i64 v0 fun z1 =>
bif (z1 != (0)) then (
retL R ((0, some ⟨[(intA a2_0), (intA a2_1)], 41⟩) :: []) [some AV.nils, some AV.nils, some (intA z1)]) else (
callQ Tryz.prog KK.gl ((0, some ⟨[(intA a2_0), (intA a2_1)], 41⟩) :: []) 26 [(AV.agg [(intA a2_0), (intA a2_1)])] fun v2 =>
ex_i64 v2 fun z3 =>
bif (z3 != (0)) then (
retL R ((0, some ⟨[(intA a2_0), (intA a2_1)], 41⟩) :: []) [some AV.nils, some AV.nils, some (intA z3)]) else (
opM (lenS a0) fun v4 d4 =>
ex_i64 v4 fun z5 =>
opM (mks 143 3 1 8 [(intA (0))] (intA z5) (intA z5)) fun v6 d6 =>
opM (ldS (look' (mpushs (mpushs ((0, some ⟨[(intA a2_0), (intA a2_1)], 41⟩) :: []) d4) d6) (topId (AV.ptr 0 0) ++ ([]))) (AV.ptr 0 0)) fun v7 d7 =>
ex_i64 v7 fun z8 =>
opM (bsl 146 3 1 1 [(intA (0))] [(0, (intA z8))]) fun v9 d9 =>
opM (lenS a0) fun v10 d10 =>
ex_i64 v10 fun z11 =>
callF Tryz.prog KK.gl (mpushs (mpushs (mpushs (mpushs (mpushs ((0, some ⟨[(intA a2_0), (intA a2_1)], 41⟩) :: []) d4) d6) d7) d9) d10) 149 27 [v9, (intA z11)] fun v12 d12 ft12 =>
chk (confOk [0, 1, 3, 0, 8, 24, 0, 64, 248, 511, 1023] [⟨[], []⟩, ⟨d4, (topId a0 ++ ([]))⟩, ⟨d6, []⟩, ⟨[], []⟩, ⟨d7, (topId (AV.ptr 0 0) ++ ([]))⟩, ⟨d9, []⟩, ⟨[], []⟩, ⟨d10, (topId a0 ++ ([]))⟩, ⟨d12, ft12⟩, ⟨[], []⟩, ⟨[], []⟩]) (opP (ldS (mget (mpushs (mpushs (mpushs (mpushs (mpushs (mpushs ((0, some ⟨[(intA a2_0), (intA a2_1)], 41⟩) :: []) d4) d6) d7) d9) d10) d12)) (AV.ptr 0 0)) fun v13 =>
ex_i64 v13 fun z14 =>
Tri Tryz.prog KK 80 0 (.loop c11_0) ⟨[(0, a0), (1, a1), (2, (AV.agg [(intA a2_0), (intA a2_1)])), (5, (AV.ptr 0 0)), (6, AV.nils), (7, AV.nils), (8, (intA (0))), (17, a0), (18, a1), (19, (intA z1)), (9, (intA z1)), (20, (intA z1)), (21, (boolA (z1 != (0)))), (23, (AV.agg [(intA a2_0), (intA a2_1)])), (24, (intA z3)), (10, (intA z3)), (25, (intA z3)), (26, (boolA (z3 != (0)))), (28, a0), (29, (intA z5)), (30, v6), (31, (AV.ptr 0 0)), (32, (intA z8)), (33, v9), (34, a0), (35, (intA z11)), (36, v12), (11, v6), (12, v12), (37, (AV.ptr 0 0)), (38, (intA z14)), (13, (intA z14))], (mpushs (mpushs (mpushs (mpushs (mpushs (mpushs ((0, some ⟨[(intA a2_0), (intA a2_1)], 41⟩) :: []) d4) d6) d7) d9) d10) d12), 155⟩ (q11_0 R))))
theorem F11_own (a0 : AV) (a1 : AV) (a2_0 : Int) (a2_1 : Int) (R : AV → Mem → Prop) (h : F11 a0 a1 a2_0 a2_1 R) : Own Tryz.prog KK.gl 11 [a0, a1, (AV.agg [(intA a2_0), (intA a2_1)])] R := own_of_F fol Tryz.func11 (code := c11) (by kernel_rfl) (by kernel_rfl) (by kernel_rfl) (X := F11 a0 a1 a2_0 a2_1 R) (by kernel_rfl) h
/- cmp.Or[int] -/
noncomputable def c31 : Code := ((Tryz.f31).body).getD .skip
noncomputable def q31 (R : AV → Mem → Prop) : AExit → St → Prop := retQ Tryz.prog Tryz.f31 R
noncomputable def c31_0 : Code := loopB c31 0
noncomputable def q31_0 (R : AV → Mem → Prop) : AExit → St → Prop := contW Tryz.prog KK 18 0 c31 0 (q31 R)
noncomputable def qq31_0 (R : AV → Mem → Prop) (N0 : St → Prop) : AExit → St → Prop := thenQ N0 (q31_0 R)
def h31_0 (t2 : Int) (t3 : Int) (t6 : AV) (t7 : Int) (t8 : Int) (m : Mem) : St := ⟨[(2, (intA t2)), (3, (intA t3)), (6, t6), (7, (intA t7)), (8, (intA t8))], m, 100000⟩
noncomputable def B31_0 (t2 : Int) (t3 : Int) (t6 : AV) (t7 : Int) (t8 : Int) (m : Mem) (R : AV → Mem → Prop) (N0 : St → Prop) : Prop :=
bif (decide (t8 < t7)) then (
opP (idxS 1 t6 (intA t8)) fun v2 =>
opP (ldS (mget m) v2) fun v3 =>
ex_i64 v3 fun z4 =>
bif (z4 != t3) then (
retL R m [some (intA z4)]) else (
N0 ⟨[(2, (intA t2)), (3, (intA t3)), (6, t6), (7, (intA t7)), (8, (intA (IntKind.wrap .i64 (t8 + (1))))), (9, (boolA (decide (t8 < t7)))), (10, v2), (11, (intA z4)), (5, (intA z4)), (12, (intA z4)), (13, (intA t3)), (14, (boolA (z4 != t3))), (16, (intA (IntKind.wrap .i64 (t8 + (1)))))], m, 100009⟩)) else (
retL R m [some (intA t3)])
theorem B31_0_eq (t2 : Int) (t3 : Int) (t6 : AV) (t7 : Int) (t8 : Int) (m : Mem) (R : AV → Mem → Prop) (N0 : St → Prop) : W Tryz.prog KK 18 0 c31_0 (h31_0 t2 t3 t6 t7 t8 m) (qq31_0 R N0) = B31_0 t2 t3 t6 t7 t8 m R N0 := by kernel_rfl
theorem L31_0 (R : AV → Mem → Prop) {σ : Type} (I : σ → Prop) (t2 : σ → Int) (t3 : σ → Int) (t6 : σ → AV) (t7 : σ → Int) (t8 : σ → Int) (m : σ → Mem) (μ : σ → Nat) (step : ∀ x, I x → B31_0 (t2 x) (t3 x) (t6 x) (t7 x) (t8 x) (m x) R (fun s' => ∃ y, I y ∧ μ y < μ x ∧ Weak KK 18 0 s' (h31_0 (t2 y) (t3 y) (t6 y) (t7 y) (t8 y) (m y)))) (x : σ) (hx : I x) {s : St} (hw : Weak KK 18 0 s (h31_0 (t2 x) (t3 x) (t6 x) (t7 x) (t8 x) (m x))) : Tri Tryz.prog KK 18 0 (.loop c31_0) s (q31_0 R) :=
  Tri.weak hw (Tri.loops fol I (fun x => h31_0 (t2 x) (t3 x) (t6 x) (t7 x) (t8 x) (m x)) μ (fun x hx => (B31_0_eq (t2 x) (t3 x) (t6 x) (t7 x) (t8 x) (m x) R _).mpr (step x hx)) x hx)
noncomputable def F31 (a0 : AV) (R : AV → Mem → Prop) : Prop :=
opP (lenS a0) fun v0 =>
ex_i64 v0 fun z1 =>
Tri Tryz.prog KK 18 0 (.loop c31_0) ⟨[(0, a0), (2, (intA (0))), (3, (intA (0))), (6, a0), (7, (intA z1)), (8, (intA (0)))], [], 5⟩ (q31_0 R)
theorem F31_own (a0 : AV) (R : AV → Mem → Prop) (h : F31 a0 R) : Own Tryz.prog KK.gl 31 [a0] R := own_of_F fol Tryz.func31 (code := c31) (by kernel_rfl) (by kernel_rfl) (by kernel_rfl) (X := F31 a0 R) (by kernel_rfl) h
/- skyway/load.Over$1 -/
noncomputable def c30 : Code := ((Tryz.f30).body).getD .skip
noncomputable def q30 (R : AV → Mem → Prop) : AExit → St → Prop := retQ Tryz.prog Tryz.f30 R
noncomputable def F30 (a0_0 : Int) (a0_1 : Int) (a0_2 : Int) (a1_0 : Int) (a1_1 : Int) (a1_2 : Int) (R : AV → Mem → Prop) : Prop :=
opN (bsl 13 3 1 2 [(intA (0))] [(0, (intA (IntKind.wrap .i64 (a0_1 - a1_1)))), (1, (intA (IntKind.wrap .i64 (a0_0 - a1_0))))]) ((1, some ⟨[(intA a1_0), (intA a1_1), (intA a1_2)], 49⟩) :: (0, some ⟨[(intA a0_0), (intA a0_1), (intA a0_2)], 49⟩) :: []) fun v0 m0 =>
callQ Tryz.prog KK.gl m0 31 [v0] fun v1 =>
ex_i64 v1 fun z2 =>
retL R m0 [some (intA z2)]
theorem F30_own (a0_0 : Int) (a0_1 : Int) (a0_2 : Int) (a1_0 : Int) (a1_1 : Int) (a1_2 : Int) (R : AV → Mem → Prop) (h : F30 a0_0 a0_1 a0_2 a1_0 a1_1 a1_2 R) : Own Tryz.prog KK.gl 30 [(AV.agg [(intA a0_0), (intA a0_1), (intA a0_2)]), (AV.agg [(intA a1_0), (intA a1_1), (intA a1_2)])] R := own_of_F fol Tryz.func30 (code := c30) (by kernel_rfl) (by kernel_rfl) (by kernel_rfl) (X := F30 a0_0 a0_1 a0_2 a1_0 a1_1 a1_2 R) (by kernel_rfl) h
/- skyway/load.Over -/
noncomputable def c12 : Code := ((Tryz.f12).body).getD .skip
noncomputable def q12 (R : AV → Mem → Prop) : AExit → St → Prop := retQ Tryz.prog Tryz.f12 R
noncomputable def c12_0 : Code := loopB c12 0
noncomputable def q12_0 (R : AV → Mem → Prop) : AExit → St → Prop := contW Tryz.prog KK 101 0 c12 0 (q12 R)
noncomputable def qq12_0 (R : AV → Mem → Prop) (N0 : St → Prop) : AExit → St → Prop := thenQ N0 (q12_0 R)
def h12_0 (t0 : AV) (t1 : AV) (t2 : AV) (t8 : AV) (t9 : Int) (t12 : AV) (t13 : AV) (t14 : Int) (m : Mem) : St := ⟨[(0, t0), (1, t1), (2, t2), (7, (AV.ptr 0 0)), (8, t8), (9, (intA t9)), (12, t12), (13, t13), (14, (intA t14))], m, 100000⟩
noncomputable def c12_0_0 : Code := loopB c12_0 0
noncomputable def q12_0_0 (R : AV → Mem → Prop) (N0 : St → Prop) : AExit → St → Prop := contW Tryz.prog KK 101 0 c12_0 0 (qq12_0 R N0)
noncomputable def qq12_0_0 (R : AV → Mem → Prop) (N0 : St → Prop) (N1 : St → Prop) : AExit → St → Prop := thenQ N1 (q12_0_0 R N0)
def h12_0_0 (t0 : AV) (t1 : AV) (t2 : AV) (t8 : AV) (t9 : Int) (t12 : AV) (t13 : AV) (t14 : Int) (t15 : AV) (t54 : Int) (t55 : Int) (m : Mem) : St := ⟨[(0, t0), (1, t1), (2, t2), (7, (AV.ptr 0 0)), (8, t8), (9, (intA t9)), (12, t12), (13, t13), (14, (intA t14)), (15, t15), (54, (intA t54)), (55, (intA t55))], m, 200000⟩
noncomputable def B12_0 (t0 : AV) (t1 : AV) (t2 : AV) (t8 : AV) (t9 : Int) (t12 : AV) (t13 : AV) (t14 : Int) (m : Mem) (R : AV → Mem → Prop) (N0 : St → Prop) : Prop :=
opP (ldS (mget m) (AV.ptr 0 1)) fun v14 =>
ex_i64 v14 fun z15 =>
bif (decide (t14 < z15)) then (
callW Tryz.prog KK.gl m 100007 28 [t0, t1, (intA t14)] fun v16 m16 =>
exT2 v16 fun c17 c18 =>
ex_i64 c18 fun z19 =>
opP (lenS c17) fun v20 =>
ex_i64 v20 fun z21 =>
Tri Tryz.prog KK 101 0 (.loop c12_0_0) ⟨[(0, t0), (1, t1), (2, t2), (7, (AV.ptr 0 0)), (8, t8), (9, (intA t9)), (12, t12), (13, t13), (14, (intA t14)), (40, (intA t14)), (41, (AV.ptr 0 1)), (42, (intA z15)), (43, (boolA (decide (t14 < z15)))), (47, t0), (48, t1), (49, (intA t14)), (50, (AV.tup [c17, (intA z19)])), (46, (AV.tup [c17, (intA z19)])), (51, c17), (52, (intA z19)), (15, c17), (16, (intA z19)), (53, c17), (54, (intA z21)), (55, (intA (0)))], m16, 100079⟩ (q12_0_0 R N0)) else (
callW Tryz.prog KK.gl m 100005 29 [t12, (AV.fn 30 [])] fun v46 m46 =>
exT0 v46 <|
retL R m46 [some t12, some (intA (0))])
theorem B12_0_eq (t0 : AV) (t1 : AV) (t2 : AV) (t8 : AV) (t9 : Int) (t12 : AV) (t13 : AV) (t14 : Int) (m : Mem) (R : AV → Mem → Prop) (N0 : St → Prop) : W Tryz.prog KK 101 0 c12_0 (h12_0 t0 t1 t2 t8 t9 t12 t13 t14 m) (qq12_0 R N0) = B12_0 t0 t1 t2 t8 t9 t12 t13 t14 m R N0 := by kernel_rfl
theorem L12_0 (R : AV → Mem → Prop) {σ : Type} (I : σ → Prop) (t0 : σ → AV) (t1 : σ → AV) (t2 : σ → AV) (t8 : σ → AV) (t9 : σ → Int) (t12 : σ → AV) (t13 : σ → AV) (t14 : σ → Int) (m : σ → Mem) (μ : σ → Nat) (step : ∀ x, I x → B12_0 (t0 x) (t1 x) (t2 x) (t8 x) (t9 x) (t12 x) (t13 x) (t14 x) (m x) R (fun s' => ∃ y, I y ∧ μ y < μ x ∧ Weak KK 101 0 s' (h12_0 (t0 y) (t1 y) (t2 y) (t8 y) (t9 y) (t12 y) (t13 y) (t14 y) (m y)))) (x : σ) (hx : I x) {s : St} (hw : Weak KK 101 0 s (h12_0 (t0 x) (t1 x) (t2 x) (t8 x) (t9 x) (t12 x) (t13 x) (t14 x) (m x))) : Tri Tryz.prog KK 101 0 (.loop c12_0) s (q12_0 R) :=
  Tri.weak hw (Tri.loops fol I (fun x => h12_0 (t0 x) (t1 x) (t2 x) (t8 x) (t9 x) (t12 x) (t13 x) (t14 x) (m x)) μ (fun x hx => (B12_0_eq (t0 x) (t1 x) (t2 x) (t8 x) (t9 x) (t12 x) (t13 x) (t14 x) (m x) R _).mpr (step x hx)) x hx)
noncomputable def B12_0_0 (t0 : AV) (t1 : AV) (t2 : AV) (t8 : AV) (t9 : Int) (t12 : AV) (t13 : AV) (t14 : Int) (t15 : AV) (t54 : Int) (t55 : Int) (m : Mem) (R : AV → Mem → Prop) (N0 : St → Prop) (N1 : St → Prop) : Prop :=
bif (decide (t55 < t54)) then (
opP (idxS 1 t15 (intA t55)) fun v22 =>
opP (ldS (mget m) v22) fun v23 =>
ex_i64 v23 fun z24 =>
opP (idxS 1 t2 (intA t55)) fun v25 =>
opP (ldS (mget m) v25) fun v26 =>
ex_i64 v26 fun z27 =>
bif (decide (z24 ≤ z27)) then (
opP (idxS 1 t13 (intA t55)) fun v28 =>
storeW Tryz.prog (mget m) 3 v28 (intA (-1)) fun v29 d29 =>
N1 ⟨[(0, t0), (1, t1), (2, t2), (7, (AV.ptr 0 0)), (8, t8), (9, (intA t9)), (12, t12), (13, t13), (14, (intA t14)), (15, t15), (54, (intA t54)), (55, (intA (IntKind.wrap .i64 (t55 + (1))))), (56, (boolA (decide (t55 < t54)))), (57, (intA t55)), (17, (intA t55)), (71, t15), (72, (intA t55)), (73, v22), (74, (intA z24)), (75, t2), (76, (intA t55)), (77, v25), (78, (intA z27)), (79, (boolA (decide (z24 ≤ z27)))), (70, (boolA (decide (z24 ≤ z27)))), (80, t13), (81, (intA t55)), (82, v28), (97, (intA (IntKind.wrap .i64 (t55 + (1)))))], (mpushs m d29), 200019⟩) else (
opP (idxS 1 t13 (intA t55)) fun v30 =>
opP (ldS (mget m) v30) fun v31 =>
ex_i64 v31 fun z32 =>
bif (decide (z32 ≥ (0))) then (
opP (idxS 1 t13 (intA t55)) fun v33 =>
opP (ldS (mget m) v33) fun v34 =>
ex_i64 v34 fun z35 =>
opP (idxS 3 t12 (intA z35)) fun v36 =>
opP (fldO 2 v36) fun v37 =>
storeW Tryz.prog (mget m) 3 v37 (intA t14) fun v38 d38 =>
N1 ⟨[(0, t0), (1, t1), (2, t2), (7, (AV.ptr 0 0)), (8, t8), (9, (intA t9)), (12, t12), (13, t13), (14, (intA t14)), (15, t15), (54, (intA t54)), (55, (intA (IntKind.wrap .i64 (t55 + (1))))), (56, (boolA (decide (t55 < t54)))), (57, (intA t55)), (17, (intA t55)), (71, t15), (72, (intA t55)), (73, v22), (74, (intA z24)), (75, t2), (76, (intA t55)), (77, v25), (78, (intA z27)), (79, (boolA (decide (z24 ≤ z27)))), (70, (boolA (decide (z24 ≤ z27)))), (84, t13), (85, (intA t55)), (86, v30), (87, (intA z32)), (88, (boolA (decide (z32 ≥ (0))))), (83, (boolA (decide (z32 ≥ (0))))), (89, t12), (90, t13), (91, (intA t55)), (92, v33), (93, (intA z35)), (94, (intA t14)), (95, v36), (96, v37), (97, (intA (IntKind.wrap .i64 (t55 + (1)))))], (mpushs m d38), 200030⟩) else (
opP (lenS t12) fun v39 =>
ex_i64 v39 fun z40 =>
opP (idxS 1 t13 (intA t55)) fun v41 =>
storeW Tryz.prog (mget m) 3 v41 (intA z40) fun v42 d42 =>
opP (bld [(intA (0)), (intA (0)), (intA (0))] [(0, 1), (1, 1), (2, 1)] [(0, (intA t55)), (1, (intA t14)), (2, (intA t14))]) fun v43 =>
opN (bsl 200030 49 3 1 [(intA (0)), (intA (0)), (intA (0))] [(0, v43)]) (mpushs m d42) fun v44 m44 =>
opN (app (mget m44) 49 3 24 [(intA (0)), (intA (0)), (intA (0))] 200031 t12 v44) m44 fun v45 m45 =>
N1 ⟨[(0, t0), (1, t1), (2, t2), (7, (AV.ptr 0 0)), (8, t8), (9, (intA t9)), (12, v45), (13, t13), (14, (intA t14)), (15, t15), (54, (intA t54)), (55, (intA (IntKind.wrap .i64 (t55 + (1))))), (56, (boolA (decide (t55 < t54)))), (57, (intA t55)), (17, (intA t55)), (71, t15), (72, (intA t55)), (73, v22), (74, (intA z24)), (75, t2), (76, (intA t55)), (77, v25), (78, (intA z27)), (79, (boolA (decide (z24 ≤ z27)))), (70, (boolA (decide (z24 ≤ z27)))), (84, t13), (85, (intA t55)), (86, v30), (87, (intA z32)), (88, (boolA (decide (z32 ≥ (0))))), (83, (boolA (decide (z32 ≥ (0))))), (58, t13), (59, (intA t55)), (60, t12), (61, (intA z40)), (62, v41), (63, t12), (64, (intA t55)), (65, (intA t14)), (66, (intA t14)), (67, v43), (68, v44), (69, v45), (97, (intA (IntKind.wrap .i64 (t55 + (1)))))], m45, 200035⟩))) else (
N0 ⟨[(0, t0), (1, t1), (2, t2), (7, (AV.ptr 0 0)), (8, t8), (9, (intA t9)), (12, t12), (13, t13), (14, (intA (IntKind.wrap .i64 (t14 + (1))))), (15, t15), (54, (intA t54)), (55, (intA t55)), (56, (boolA (decide (t55 < t54)))), (44, (intA t14)), (45, (intA (IntKind.wrap .i64 (t14 + (1)))))], m, 200004⟩)
theorem B12_0_0_eq (t0 : AV) (t1 : AV) (t2 : AV) (t8 : AV) (t9 : Int) (t12 : AV) (t13 : AV) (t14 : Int) (t15 : AV) (t54 : Int) (t55 : Int) (m : Mem) (R : AV → Mem → Prop) (N0 : St → Prop) (N1 : St → Prop) : W Tryz.prog KK 101 0 c12_0_0 (h12_0_0 t0 t1 t2 t8 t9 t12 t13 t14 t15 t54 t55 m) (qq12_0_0 R N0 N1) = B12_0_0 t0 t1 t2 t8 t9 t12 t13 t14 t15 t54 t55 m R N0 N1 := by kernel_rfl
theorem L12_0_0 (R : AV → Mem → Prop) (N0 : St → Prop) {σ : Type} (I : σ → Prop) (t0 : σ → AV) (t1 : σ → AV) (t2 : σ → AV) (t8 : σ → AV) (t9 : σ → Int) (t12 : σ → AV) (t13 : σ → AV) (t14 : σ → Int) (t15 : σ → AV) (t54 : σ → Int) (t55 : σ → Int) (m : σ → Mem) (μ : σ → Nat) (step : ∀ x, I x → B12_0_0 (t0 x) (t1 x) (t2 x) (t8 x) (t9 x) (t12 x) (t13 x) (t14 x) (t15 x) (t54 x) (t55 x) (m x) R N0 (fun s' => ∃ y, I y ∧ μ y < μ x ∧ Weak KK 101 0 s' (h12_0_0 (t0 y) (t1 y) (t2 y) (t8 y) (t9 y) (t12 y) (t13 y) (t14 y) (t15 y) (t54 y) (t55 y) (m y)))) (x : σ) (hx : I x) {s : St} (hw : Weak KK 101 0 s (h12_0_0 (t0 x) (t1 x) (t2 x) (t8 x) (t9 x) (t12 x) (t13 x) (t14 x) (t15 x) (t54 x) (t55 x) (m x))) : Tri Tryz.prog KK 101 0 (.loop c12_0_0) s (q12_0_0 R N0) :=
  Tri.weak hw (Tri.loops fol I (fun x => h12_0_0 (t0 x) (t1 x) (t2 x) (t8 x) (t9 x) (t12 x) (t13 x) (t14 x) (t15 x) (t54 x) (t55 x) (m x)) μ (fun x hx => (B12_0_0_eq (t0 x) (t1 x) (t2 x) (t8 x) (t9 x) (t12 x) (t13 x) (t14 x) (t15 x) (t54 x) (t55 x) (m x) R N0 _).mpr (step x hx)) x hx)
noncomputable def F12 (a0 : AV) (a1 : AV) (a2 : AV) (a3_0 : Int) (a3_1 : Int) (R : AV → Mem → Prop) : Prop :=
callQ Tryz.prog KK.gl ((0, some ⟨[(intA a3_0), (intA a3_1)], 41⟩) :: []) 22 [a0, a1] fun v0 =>
ex_i64 v0 fun z1 =>
bif (z1 != (0)) then (
retL R ((0, some ⟨[(intA a3_0), (intA a3_1)], 41⟩) :: []) [some AV.nils, some (intA z1)]) else (
opP (lenS a2) fun v2 =>
ex_i64 v2 fun z3 =>
opP (lenS a0) fun v4 =>
ex_i64 v4 fun z5 =>
bif (z3 != z5) then (
retL R ((0, some ⟨[(intA a3_0), (intA a3_1)], 41⟩) :: []) [some AV.nils, some (intA (3))]) else (
callQ Tryz.prog KK.gl ((0, some ⟨[(intA a3_0), (intA a3_1)], 41⟩) :: []) 26 [(AV.agg [(intA a3_0), (intA a3_1)])] fun v6 =>
ex_i64 v6 fun z7 =>
bif (z7 != (0)) then (
retL R ((0, some ⟨[(intA a3_0), (intA a3_1)], 41⟩) :: []) [some AV.nils, some (intA z7)]) else (
opN (bsl 146 3 1 1 [(intA (0))] [(0, (intA (-1)))]) ((0, some ⟨[(intA a3_0), (intA a3_1)], 41⟩) :: []) fun v8 m8 =>
opP (lenS a0) fun v9 =>
ex_i64 v9 fun z10 =>
callW Tryz.prog KK.gl m8 149 27 [v8, (intA z10)] fun v11 m11 =>
opP (ldS (mget m11) (AV.ptr 0 0)) fun v12 =>
ex_i64 v12 fun z13 =>
Tri Tryz.prog KK 101 0 (.loop c12_0) ⟨[(0, a0), (1, a1), (2, a2), (3, (AV.agg [(intA a3_0), (intA a3_1)])), (7, (AV.ptr 0 0)), (8, AV.nils), (9, (intA (0))), (18, a0), (19, a1), (20, (intA z1)), (10, (intA z1)), (21, (intA z1)), (22, (boolA (z1 != (0)))), (24, a2), (25, (intA z3)), (26, a0), (27, (intA z5)), (28, (boolA (z3 != z5))), (29, (AV.agg [(intA a3_0), (intA a3_1)])), (30, (intA z7)), (11, (intA z7)), (31, (intA z7)), (32, (boolA (z7 != (0)))), (12, AV.nils), (34, v8), (35, a0), (36, (intA z10)), (37, v11), (13, v11), (38, (AV.ptr 0 0)), (39, (intA z13)), (14, (intA z13))], m11, 217⟩ (q12_0 R))))
theorem F12_own (a0 : AV) (a1 : AV) (a2 : AV) (a3_0 : Int) (a3_1 : Int) (R : AV → Mem → Prop) (h : F12 a0 a1 a2 a3_0 a3_1 R) : Own Tryz.prog KK.gl 12 [a0, a1, a2, (AV.agg [(intA a3_0), (intA a3_1)])] R := own_of_F fol Tryz.func12 (code := c12) (by kernel_rfl) (by kernel_rfl) (by kernel_rfl) (X := F12 a0 a1 a2 a3_0 a3_1 R) (by kernel_rfl) h
/- skyway/skywaykeep3.LoadLimits$1 -/
noncomputable def c15 : Code := ((Tryz.f15).body).getD .skip
noncomputable def q15 (R : AV → Mem → Prop) : AExit → St → Prop := retQ Tryz.prog Tryz.f15 R
noncomputable def F15 (a0_0 : Int) (a0_1 : Int) (a0_2 : Int) (a1 : AV) (R : AV → Mem → Prop) : Prop :=
opP (ldS (mget ((0, some ⟨[(intA a0_0), (intA a0_1), (intA a0_2)], 49⟩) :: [])) a1) fun v0 =>
ex_i64 v0 fun z1 =>
retL R ((0, some ⟨[(intA a0_0), (intA a0_1), (intA a0_2)], 49⟩) :: []) [some (boolA (a0_0 == z1))]
theorem F15_own (a0_0 : Int) (a0_1 : Int) (a0_2 : Int) (a1 : AV) (R : AV → Mem → Prop) (h : F15 a0_0 a0_1 a0_2 a1 R) : Own Tryz.prog KK.gl 15 [(AV.agg [(intA a0_0), (intA a0_1), (intA a0_2)]), a1] R := own_of_F fol Tryz.func15 (code := c15) (by kernel_rfl) (by kernel_rfl) (by kernel_rfl) (X := F15 a0_0 a0_1 a0_2 a1 R) (by kernel_rfl) h
/- slices.IndexFunc[[]skyway/api.LoadOver,skyway/api.LoadOver] -/
noncomputable def c14 : Code := ((Tryz.f14).body).getD .skip
noncomputable def q14 (R : AV → Mem → Prop) : AExit → St → Prop := retQ Tryz.prog Tryz.f14 R
noncomputable def c14_0 : Code := loopB c14 0
noncomputable def q14_0 (R : AV → Mem → Prop) : AExit → St → Prop := contW Tryz.prog KK 19 0 c14 0 (q14 R)
noncomputable def qq14_0 (R : AV → Mem → Prop) (N0 : St → Prop) : AExit → St → Prop := thenQ N0 (q14_0 R)
def h14_0 (t0 : AV) (t1 : AV) (t4 : Int) (t7 : Int) (t8 : Int) (m : Mem) : St := ⟨[(0, t0), (1, t1), (4, (intA t4)), (7, (intA t7)), (8, (intA t8))], m, 100000⟩
noncomputable def B14_0 (t0 : AV) (t1 : AV) (t4 : Int) (t7 : Int) (t8 : Int) (m : Mem) (R : AV → Mem → Prop) (N0 : St → Prop) : Prop :=
bif (decide (t8 < t7)) then (
opP (idxS 3 t0 (intA t8)) fun v2 =>
opP (ldA (mget m) 3 v2) fun v3 =>
exA3 v3 fun c4 c5 c6 =>
ex_i64 c4 fun z7 =>
ex_i64 c5 fun z8 =>
ex_i64 c6 fun z9 =>
fnArgs (some t1) (some [(AV.agg [(intA z7), (intA z8), (intA z9)])]) fun f10 a10 => bif KK.pm f10 then callQ Tryz.prog KK.gl m f10 a10 (fun v10 =>
exB v10 fun b11 =>
bif b11 then (
retL R m [some (intA t8)]) else (
N0 ⟨[(0, t0), (1, t1), (4, (intA t4)), (7, (intA t7)), (8, (intA (IntKind.wrap .i64 (t8 + (1))))), (9, (boolA (decide (t8 < t7)))), (10, (intA t8)), (5, (intA t8)), (11, t1), (12, t0), (13, (intA t8)), (14, v2), (15, (AV.agg [(intA z7), (intA z8), (intA z9)])), (16, (boolA b11)), (18, (intA (IntKind.wrap .i64 (t8 + (1)))))], m, 100074⟩)) else callW Tryz.prog KK.gl m 100008 f10 a10 fun v10 m10 =>
exB v10 fun b11 =>
bif b11 then (
retL R m10 [some (intA t8)]) else (
N0 ⟨[(0, t0), (1, t1), (4, (intA t4)), (7, (intA t7)), (8, (intA (IntKind.wrap .i64 (t8 + (1))))), (9, (boolA (decide (t8 < t7)))), (10, (intA t8)), (5, (intA t8)), (11, t1), (12, t0), (13, (intA t8)), (14, v2), (15, (AV.agg [(intA z7), (intA z8), (intA z9)])), (16, (boolA b11)), (18, (intA (IntKind.wrap .i64 (t8 + (1)))))], m10, 100074⟩)) else (
retL R m [some (intA (-1))])
theorem B14_0_eq (t0 : AV) (t1 : AV) (t4 : Int) (t7 : Int) (t8 : Int) (m : Mem) (R : AV → Mem → Prop) (N0 : St → Prop) : W Tryz.prog KK 19 0 c14_0 (h14_0 t0 t1 t4 t7 t8 m) (qq14_0 R N0) = B14_0 t0 t1 t4 t7 t8 m R N0 := by kernel_rfl
theorem L14_0 (R : AV → Mem → Prop) {σ : Type} (I : σ → Prop) (t0 : σ → AV) (t1 : σ → AV) (t4 : σ → Int) (t7 : σ → Int) (t8 : σ → Int) (m : σ → Mem) (μ : σ → Nat) (step : ∀ x, I x → B14_0 (t0 x) (t1 x) (t4 x) (t7 x) (t8 x) (m x) R (fun s' => ∃ y, I y ∧ μ y < μ x ∧ Weak KK 19 0 s' (h14_0 (t0 y) (t1 y) (t4 y) (t7 y) (t8 y) (m y)))) (x : σ) (hx : I x) {s : St} (hw : Weak KK 19 0 s (h14_0 (t0 x) (t1 x) (t4 x) (t7 x) (t8 x) (m x))) : Tri Tryz.prog KK 19 0 (.loop c14_0) s (q14_0 R) :=
  Tri.weak hw (Tri.loops fol I (fun x => h14_0 (t0 x) (t1 x) (t4 x) (t7 x) (t8 x) (m x)) μ (fun x hx => (B14_0_eq (t0 x) (t1 x) (t4 x) (t7 x) (t8 x) (m x) R _).mpr (step x hx)) x hx)
noncomputable def F14 (a0 : AV) (a1 : AV) (R : AV → Mem → Prop) : Prop :=
opP (lenS a0) fun v0 =>
ex_i64 v0 fun z1 =>
Tri Tryz.prog KK 19 0 (.loop c14_0) ⟨[(0, a0), (1, a1), (4, (intA (0))), (6, a0), (7, (intA z1)), (8, (intA (0)))], [], 4⟩ (q14_0 R)
theorem F14_own (a0 : AV) (a1 : AV) (R : AV → Mem → Prop) (h : F14 a0 a1 R) : Own Tryz.prog KK.gl 14 [a0, a1] R := own_of_F fol Tryz.func14 (code := c14) (by kernel_rfl) (by kernel_rfl) (by kernel_rfl) (X := F14 a0 a1 R) (by kernel_rfl) h
/- skyway/skywaykeep3.LoadLimits -/
noncomputable def c4 : Code := ((Tryz.f4).body).getD .skip
noncomputable def q4 (R : AV → Mem → Prop) : AExit → St → Prop := retQ Tryz.prog Tryz.f4 R
noncomputable def c4_0 : Code := loopB c4 0
noncomputable def q4_0 (R : AV → Mem → Prop) : AExit → St → Prop := contW Tryz.prog KK 115 0 c4 0 (q4 R)
noncomputable def qq4_0 (R : AV → Mem → Prop) (N0 : St → Prop) : AExit → St → Prop := thenQ N0 (q4_0 R)
def h4_0 (t0 : AV) (t1 : AV) (t6 : Bool) (t7 : AV) (t8 : AV) (t10 : AV) (t11 : Int) (t12 : AV) (t55 : Int) (t56 : Int) (m : Mem) : St := ⟨[(0, t0), (1, t1), (5, (AV.ptr 0 0)), (6, (boolA t6)), (7, t7), (8, t8), (10, t10), (11, (intA t11)), (12, t12), (55, (intA t55)), (56, (intA t56))], m, 100000⟩
noncomputable def c4_1 : Code := loopB c4 1
noncomputable def q4_1 (R : AV → Mem → Prop) : AExit → St → Prop := contW Tryz.prog KK 115 0 c4 1 (q4 R)
noncomputable def qq4_1 (R : AV → Mem → Prop) (N0 : St → Prop) : AExit → St → Prop := thenQ N0 (q4_1 R)
def h4_1 (t6 : Bool) (t8 : AV) (t14 : AV) (t93 : Int) (t94 : Int) (m : Mem) : St := ⟨[(6, (boolA t6)), (8, t8), (14, t14), (93, (intA t93)), (94, (intA t94))], m, 200000⟩
noncomputable def B4_0 (t0 : AV) (t1 : AV) (t6 : Bool) (t7 : AV) (t8 : AV) (t10 : AV) (t11 : Int) (t12 : AV) (t55 : Int) (t56 : Int) (m : Mem) (R : AV → Mem → Prop) (N0 : St → Prop) : Prop :=
bif (decide (t56 < t55)) then (
opP (idxS 1 t12 (intA t56)) fun v26 =>
opP (ldS (mget m) v26) fun v27 =>
ex_i64 v27 fun z28 =>
opP (idxS 1 t12 (intA t56)) fun v29 =>
storeW Tryz.prog (mget m) 3 v29 (intA (IntKind.wrap .i64 (z28 - (1)))) fun v30 d30 =>
N0 ⟨[(0, t0), (1, t1), (5, (AV.ptr 0 0)), (6, (boolA t6)), (7, t7), (8, t8), (10, t10), (11, (intA t11)), (12, t12), (55, (intA t55)), (56, (intA (IntKind.wrap .i64 (t56 + (1))))), (57, (boolA (decide (t56 < t55)))), (58, (intA t56)), (13, (intA t56)), (59, t12), (60, (intA t56)), (61, v26), (62, (intA z28)), (63, (intA (IntKind.wrap .i64 (z28 - (1))))), (64, v29), (65, (intA (IntKind.wrap .i64 (t56 + (1)))))], (mpushs m d30), 100012⟩) else (
opP (ldA (mget m) 2 (AV.ptr 0 0)) fun v31 =>
exA2 v31 fun c32 c33 =>
ex_i64 c32 fun z34 =>
ex_i64 c33 fun z35 =>
callW Tryz.prog KK.gl m 100005 12 [t0, t1, t12, (AV.agg [(intA z34), (intA z35)])] fun v36 m36 =>
exT2 v36 fun c37 c38 =>
ex_i64 c38 fun z39 =>
bif (t11 != (0)) then (
retL R m36 [some (boolA false)]) else (
bif (z39 != (0)) then (
retL R m36 [some (boolA false)]) else (
opP (lenS t10) fun v40 =>
ex_i64 v40 fun z41 =>
bif (decide (z41 > (0))) then (
retL R m36 [some (boolA false)]) else (
opP (lenS t8) fun v42 =>
ex_i64 v42 fun z43 =>
opP (lenS t7) fun v44 =>
ex_i64 v44 fun z45 =>
bif (z43 != z45) then (
retL R m36 [some (boolA false)]) else (
opP (lenS t7) fun v46 =>
ex_i64 v46 fun z47 =>
Tri Tryz.prog KK 115 0 (.loop c4_1) ⟨[(0, t0), (1, t1), (5, (AV.ptr 0 0)), (6, (boolA t6)), (7, t7), (8, t8), (10, t10), (11, (intA t11)), (12, t12), (55, (intA t55)), (56, (intA t56)), (57, (boolA (decide (t56 < t55)))), (67, t0), (68, t1), (69, t12), (70, (AV.agg [(intA z34), (intA z35)])), (71, (AV.tup [c37, (intA z39)])), (66, (AV.tup [c37, (intA z39)])), (72, c37), (73, (intA z39)), (14, c37), (15, (intA z39)), (74, (intA t11)), (75, (boolA (t11 != (0)))), (76, (boolA false)), (77, (intA z39)), (78, (boolA (z39 != (0)))), (79, (boolA (z39 != (0)))), (80, (boolA false)), (81, t10), (82, (intA z41)), (83, (boolA (decide (z41 > (0))))), (84, (boolA (decide (z41 > (0))))), (85, (boolA false)), (86, t8), (87, (intA z43)), (88, t7), (89, (intA z45)), (90, (boolA (z43 != z45))), (91, (boolA (z43 != z45))), (92, t7), (93, (intA z47)), (94, (intA (0)))], m36, 100095⟩ (q4_1 R))))))
theorem B4_0_eq (t0 : AV) (t1 : AV) (t6 : Bool) (t7 : AV) (t8 : AV) (t10 : AV) (t11 : Int) (t12 : AV) (t55 : Int) (t56 : Int) (m : Mem) (R : AV → Mem → Prop) (N0 : St → Prop) : W Tryz.prog KK 115 0 c4_0 (h4_0 t0 t1 t6 t7 t8 t10 t11 t12 t55 t56 m) (qq4_0 R N0) = B4_0 t0 t1 t6 t7 t8 t10 t11 t12 t55 t56 m R N0 := by kernel_rfl
theorem L4_0 (R : AV → Mem → Prop) {σ : Type} (I : σ → Prop) (t0 : σ → AV) (t1 : σ → AV) (t6 : σ → Bool) (t7 : σ → AV) (t8 : σ → AV) (t10 : σ → AV) (t11 : σ → Int) (t12 : σ → AV) (t55 : σ → Int) (t56 : σ → Int) (m : σ → Mem) (μ : σ → Nat) (step : ∀ x, I x → B4_0 (t0 x) (t1 x) (t6 x) (t7 x) (t8 x) (t10 x) (t11 x) (t12 x) (t55 x) (t56 x) (m x) R (fun s' => ∃ y, I y ∧ μ y < μ x ∧ Weak KK 115 0 s' (h4_0 (t0 y) (t1 y) (t6 y) (t7 y) (t8 y) (t10 y) (t11 y) (t12 y) (t55 y) (t56 y) (m y)))) (x : σ) (hx : I x) {s : St} (hw : Weak KK 115 0 s (h4_0 (t0 x) (t1 x) (t6 x) (t7 x) (t8 x) (t10 x) (t11 x) (t12 x) (t55 x) (t56 x) (m x))) : Tri Tryz.prog KK 115 0 (.loop c4_0) s (q4_0 R) :=
  Tri.weak hw (Tri.loops fol I (fun x => h4_0 (t0 x) (t1 x) (t6 x) (t7 x) (t8 x) (t10 x) (t11 x) (t12 x) (t55 x) (t56 x) (m x)) μ (fun x hx => (B4_0_eq (t0 x) (t1 x) (t6 x) (t7 x) (t8 x) (t10 x) (t11 x) (t12 x) (t55 x) (t56 x) (m x) R _).mpr (step x hx)) x hx)
noncomputable def B4_1 (t6 : Bool) (t8 : AV) (t14 : AV) (t93 : Int) (t94 : Int) (m : Mem) (R : AV → Mem → Prop) (N0 : St → Prop) : Prop :=
bif (decide (t94 < t93)) then (
callQ Tryz.prog KK.gl ((200002, some ⟨[(intA t94)], 3⟩) :: (200002, some ⟨[(intA (0))], 3⟩) :: m) 14 [t14, (AV.fn 15 [(AV.ptr 200002 0)])] fun v48 =>
ex_i64 v48 fun z49 =>
bif (decide (z49 < (0))) then (
retL R ((200002, some ⟨[(intA t94)], 3⟩) :: (200002, some ⟨[(intA (0))], 3⟩) :: m) [some (boolA false)]) else (
opP (idxS 3 t14 (intA z49)) fun v50 =>
opP (fldO 1 v50) fun v51 =>
opP (ldS (mget ((200002, some ⟨[(intA t94)], 3⟩) :: (200002, some ⟨[(intA (0))], 3⟩) :: m)) v51) fun v52 =>
ex_i64 v52 fun z53 =>
opP (idxS 1 t8 (intA t94)) fun v54 =>
opP (ldS (mget ((200002, some ⟨[(intA t94)], 3⟩) :: (200002, some ⟨[(intA (0))], 3⟩) :: m)) v54) fun v55 =>
ex_i64 v55 fun z56 =>
bif (z53 != z56) then (
retL R ((200002, some ⟨[(intA t94)], 3⟩) :: (200002, some ⟨[(intA (0))], 3⟩) :: m) [some (boolA false)]) else (
N0 ⟨[(6, (boolA t6)), (8, t8), (14, t14), (93, (intA t93)), (94, (intA (IntKind.wrap .i64 (t94 + (1))))), (95, (boolA (decide (t94 < t93)))), (96, (intA t94)), (16, (AV.ptr 200002 0)), (97, t14), (98, (AV.fn 15 [(AV.ptr 200002 0)])), (99, (intA z49)), (17, (intA z49)), (100, (intA z49)), (101, (boolA (decide (z49 < (0))))), (102, (boolA false)), (103, t14), (104, (intA z49)), (105, v50), (106, v51), (107, (intA z53)), (108, t8), (109, (intA t94)), (110, v54), (111, (intA z56)), (112, (boolA (z53 != z56))), (113, (boolA (z53 != z56))), (114, (intA (IntKind.wrap .i64 (t94 + (1)))))], ((200002, some ⟨[(intA t94)], 3⟩) :: (200002, some ⟨[(intA (0))], 3⟩) :: m), 200087⟩))) else (
retL R m [some (boolA true)])
theorem B4_1_eq (t6 : Bool) (t8 : AV) (t14 : AV) (t93 : Int) (t94 : Int) (m : Mem) (R : AV → Mem → Prop) (N0 : St → Prop) : W Tryz.prog KK 115 0 c4_1 (h4_1 t6 t8 t14 t93 t94 m) (qq4_1 R N0) = B4_1 t6 t8 t14 t93 t94 m R N0 := by kernel_rfl
theorem L4_1 (R : AV → Mem → Prop) {σ : Type} (I : σ → Prop) (t6 : σ → Bool) (t8 : σ → AV) (t14 : σ → AV) (t93 : σ → Int) (t94 : σ → Int) (m : σ → Mem) (μ : σ → Nat) (step : ∀ x, I x → B4_1 (t6 x) (t8 x) (t14 x) (t93 x) (t94 x) (m x) R (fun s' => ∃ y, I y ∧ μ y < μ x ∧ Weak KK 115 0 s' (h4_1 (t6 y) (t8 y) (t14 y) (t93 y) (t94 y) (m y)))) (x : σ) (hx : I x) {s : St} (hw : Weak KK 115 0 s (h4_1 (t6 x) (t8 x) (t14 x) (t93 x) (t94 x) (m x))) : Tri Tryz.prog KK 115 0 (.loop c4_1) s (q4_1 R) :=
  Tri.weak hw (Tri.loops fol I (fun x => h4_1 (t6 x) (t8 x) (t14 x) (t93 x) (t94 x) (m x)) μ (fun x hx => (B4_1_eq (t6 x) (t8 x) (t14 x) (t93 x) (t94 x) (m x) R _).mpr (step x hx)) x hx)
noncomputable def F4 (a0 : AV) (a1 : AV) (a2_0 : Int) (a2_1 : Int) (R : AV → Mem → Prop) : Prop :=
callQ Tryz.prog KK.gl ((0, some ⟨[(intA a2_0), (intA a2_1)], 41⟩) :: []) 5 [] fun v0 =>
exB v0 fun b1 =>
bif (!b1) then (
retL R ((0, some ⟨[(intA a2_0), (intA a2_1)], 41⟩) :: []) [some (boolA false)]) else (
callQ Tryz.prog KK.gl ((0, some ⟨[(intA a2_0), (intA a2_1)], 41⟩) :: []) 6 [a1, (intA (6)), (intA (400))] fun v2 =>
exB v2 fun b3 =>
bif (!b3) then (
retL R ((0, some ⟨[(intA a2_0), (intA a2_1)], 41⟩) :: []) [some (boolA true)]) else (
callQ Tryz.prog KK.gl ((0, some ⟨[(intA a2_0), (intA a2_1)], 41⟩) :: []) 11 [a0, a1, (AV.agg [(intA a2_0), (intA a2_1)])] fun v4 =>
exT3 v4 fun c5 c6 c7 =>
ex_i64 c7 fun z8 =>
bif (z8 != (0)) then (
opP (lenS c5) fun v9 =>
ex_i64 v9 fun z10 =>
opP (lenS c6) fun v11 =>
ex_i64 v11 fun z12 =>
retL R ((0, some ⟨[(intA a2_0), (intA a2_1)], 41⟩) :: []) [some (boolA ((IntKind.wrap .i64 (z10 + z12)) == (0)))]) else (
opP (lenS c5) fun v13 =>
ex_i64 v13 fun z14 =>
bif (z14 == (0)) then (
opP (lenS c5) fun v15 =>
ex_i64 v15 fun z16 =>
opP (lenS c6) fun v17 =>
ex_i64 v17 fun z18 =>
retL R ((0, some ⟨[(intA a2_0), (intA a2_1)], 41⟩) :: []) [some (boolA ((IntKind.wrap .i64 (z16 + z18)) == (0)))]) else (
callW Tryz.prog KK.gl ((0, some ⟨[(intA a2_0), (intA a2_1)], 41⟩) :: []) 218 12 [a0, a1, c5, (AV.agg [(intA a2_0), (intA a2_1)])] fun v19 m19 =>
exT2 v19 fun c20 c21 =>
ex_i64 c21 fun z22 =>
callW Tryz.prog KK.gl m19 288 13 [c5] fun v23 m23 =>
opP (lenS v23) fun v24 =>
ex_i64 v24 fun z25 =>
Tri Tryz.prog KK 115 0 (.loop c4_0) ⟨[(0, a0), (1, a1), (2, (AV.agg [(intA a2_0), (intA a2_1)])), (5, (AV.ptr 0 0)), (6, (boolA false)), (18, (boolA b1)), (19, (boolA (!b1))), (20, a1), (21, (boolA b3)), (22, (boolA (!b3))), (24, a0), (25, a1), (26, (AV.agg [(intA a2_0), (intA a2_1)])), (27, (AV.tup [c5, c6, (intA z8)])), (23, (AV.tup [c5, c6, (intA z8)])), (28, c5), (29, c6), (30, (intA z8)), (7, c5), (8, c6), (9, (intA z8)), (31, (intA z8)), (32, (boolA (z8 != (0)))), (33, (boolA false)), (34, c5), (35, (intA z14)), (36, (boolA (z14 == (0)))), (37, (boolA (z14 == (0)))), (45, a0), (46, a1), (47, c5), (48, (AV.agg [(intA a2_0), (intA a2_1)])), (49, (AV.tup [c20, (intA z22)])), (44, (AV.tup [c20, (intA z22)])), (50, c20), (51, (intA z22)), (10, c20), (11, (intA z22)), (52, c5), (53, v23), (12, v23), (54, v23), (55, (intA z25)), (56, (intA (0)))], m23, 356⟩ (q4_0 R)))))
theorem F4_own (a0 : AV) (a1 : AV) (a2_0 : Int) (a2_1 : Int) (R : AV → Mem → Prop) (h : F4 a0 a1 a2_0 a2_1 R) : Own Tryz.prog KK.gl 4 [a0, a1, (AV.agg [(intA a2_0), (intA a2_1)])] R := own_of_F fol Tryz.func4 (code := c4) (by kernel_rfl) (by kernel_rfl) (by kernel_rfl) (X := F4 a0 a1 a2_0 a2_1 R) (by kernel_rfl) h
/- slices.Clone[[]int,int] -/
noncomputable def c13 : Code := ((Tryz.f13).body).getD .skip
noncomputable def q13 (R : AV → Mem → Prop) : AExit → St → Prop := retQ Tryz.prog Tryz.f13 R
noncomputable def F13 (a0 : AV) (R : AV → Mem → Prop) : Prop :=
nilK a0 fun b0 =>
bif b0 then (
retL R [] [some AV.nils]) else (
opN (bsl 3 3 1 0 [(intA (0))] []) [] fun v2 m2 =>
opN (app (mget m2) 3 1 8 [(intA (0))] 5 v2 a0) m2 fun v3 m3 =>
retL R m3 [some v3])
theorem F13_own (a0 : AV) (R : AV → Mem → Prop) (h : F13 a0 R) : Own Tryz.prog KK.gl 13 [a0] R := own_of_F fol Tryz.func13 (code := c13) (by kernel_rfl) (by kernel_rfl) (by kernel_rfl) (X := F13 a0 R) (by kernel_rfl) h
/- slices.Clone[skyway/api.Tube,skyway/api.TubeNode] -/
noncomputable def c49 : Code := ((Tryz.f49).body).getD .skip
noncomputable def q49 (R : AV → Mem → Prop) : AExit → St → Prop := retQ Tryz.prog Tryz.f49 R
noncomputable def F49 (a0 : AV) (R : AV → Mem → Prop) : Prop :=
nilK a0 fun b0 =>
bif b0 then (
retL R [] [some AV.nils]) else (
opN (bsl 3 64 6 0 [(intA (0)), (intA (0)), (intA (0)), (intA (0)), (intA (0)), (intA (0))] []) [] fun v2 m2 =>
opN (app (mget m2) 64 6 48 [(intA (0)), (intA (0)), (intA (0)), (intA (0)), (intA (0)), (intA (0))] 5 v2 a0) m2 fun v3 m3 =>
retL R m3 [some v3])
theorem F49_own (a0 : AV) (R : AV → Mem → Prop) (h : F49 a0 R) : Own Tryz.prog KK.gl 49 [a0] R := own_of_F fol Tryz.func49 (code := c49) (by kernel_rfl) (by kernel_rfl) (by kernel_rfl) (X := F49 a0 R) (by kernel_rfl) h
end Go.Proofs.YtldiackagnjlgaaGreat
