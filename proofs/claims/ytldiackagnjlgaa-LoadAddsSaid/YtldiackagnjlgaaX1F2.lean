/- Functions of the program as conditions on their answers; printed by wip/Gen.lean.txt. -/
import Derived.Test.YtldiackagnjlgaaX1T
set_option linter.unusedVariables false
set_option maxRecDepth 100000
set_option maxHeartbeats 4000000
namespace Go.Proofs.Ytldiackagnjlgaa
/- skyway/polygon.enters -/
noncomputable def c82 : Code := ((Try.f82).body).getD .skip
noncomputable def q82 (R : AV → Mem → Prop) : AExit → St → Prop := retQ Try.prog Try.f82 R
noncomputable def c82_0 : Code := loopB c82 0
noncomputable def q82_0 (R : AV → Mem → Prop) : AExit → St → Prop := contW Try.prog KK 127 0 c82 0 (q82 R)
noncomputable def qq82_0 (R : AV → Mem → Prop) (N0 : St → Prop) : AExit → St → Prop := thenQ N0 (q82_0 R)
def h82_0 (t0 : AV) (t1 : AV) (t4 : Bool) (t17 : Int) (t18 : Int) (m : Mem) : St := ⟨[(0, t0), (1, t1), (4, (boolA t4)), (17, (intA t17)), (18, (intA t18))], m, 100000⟩
noncomputable def c82_0_0 : Code := loopB c82_0 0
noncomputable def q82_0_0 (R : AV → Mem → Prop) (N0 : St → Prop) : AExit → St → Prop := contW Try.prog KK 127 0 c82_0 0 (qq82_0 R N0)
noncomputable def qq82_0_0 (R : AV → Mem → Prop) (N0 : St → Prop) (N1 : St → Prop) : AExit → St → Prop := thenQ N1 (q82_0_0 R N0)
def h82_0_0 (t0 : AV) (t1 : AV) (t4 : Bool) (t8 : AV) (t17 : Int) (t18 : Int) (t31 : AV) (t32 : Int) (t33 : Int) (m : Mem) : St := ⟨[(0, t0), (1, t1), (4, (boolA t4)), (6, (AV.ptr 100010 0)), (7, (AV.ptr 100011 0)), (8, t8), (17, (intA t17)), (18, (intA t18)), (31, t31), (32, (intA t32)), (33, (intA t33))], m, 200000⟩
noncomputable def c82_0_1 : Code := loopB c82_0 1
noncomputable def q82_0_1 (R : AV → Mem → Prop) (N0 : St → Prop) : AExit → St → Prop := contW Try.prog KK 127 0 c82_0 1 (qq82_0 R N0)
noncomputable def qq82_0_1 (R : AV → Mem → Prop) (N0 : St → Prop) (N1 : St → Prop) : AExit → St → Prop := thenQ N1 (q82_0_1 R N0)
def h82_0_1 (t0 : AV) (t1 : AV) (t4 : Bool) (t8 : AV) (t11 : Int) (t17 : Int) (t18 : Int) (m : Mem) : St := ⟨[(0, t0), (1, t1), (4, (boolA t4)), (6, (AV.ptr 100010 0)), (7, (AV.ptr 100011 0)), (8, t8), (11, (intA t11)), (17, (intA t17)), (18, (intA t18))], m, 300000⟩
noncomputable def c82_0_1_0 : Code := loopB c82_0_1 0
noncomputable def q82_0_1_0 (R : AV → Mem → Prop) (N0 : St → Prop) (N1 : St → Prop) : AExit → St → Prop := contW Try.prog KK 127 0 c82_0_1 0 (qq82_0_1 R N0 N1)
noncomputable def qq82_0_1_0 (R : AV → Mem → Prop) (N0 : St → Prop) (N1 : St → Prop) (N2 : St → Prop) : AExit → St → Prop := thenQ N2 (q82_0_1_0 R N0 N1)
def h82_0_1_0 (t0 : AV) (t1 : AV) (t4 : Bool) (t8 : AV) (t11 : Int) (t17 : Int) (t18 : Int) (t100 : Int) (t101 : Int) (m : Mem) : St := ⟨[(0, t0), (1, t1), (4, (boolA t4)), (6, (AV.ptr 100010 0)), (7, (AV.ptr 100011 0)), (8, t8), (11, (intA t11)), (12, (AV.ptr 300041 0)), (17, (intA t17)), (18, (intA t18)), (100, (intA t100)), (101, (intA t101))], m, 400000⟩
noncomputable def B82_0 (t0 : AV) (t1 : AV) (t4 : Bool) (t17 : Int) (t18 : Int) (m : Mem) (R : AV → Mem → Prop) (N0 : St → Prop) : Prop :=
bif (decide (t18 < t17)) then (
opM (idxS 2 t0 (intA t18)) fun v2 d2 =>
opM (ldA (look' (mpushs m d2) (topId v2 ++ ([]))) 2 v2) fun v3 d3 =>
exA2 v3 fun c4 c5 =>
ex_i64 c4 fun z6 =>
ex_i64 c5 fun z7 =>
callF Try.prog KK.gl (mpushs (mpushs m d2) d3) 100009 72 [t0, (intA t18)] fun v8 d8 ft8 =>
exA2 v8 fun c9 c10 =>
ex_i64 c9 fun z11 =>
ex_i64 c10 fun z12 =>
storeW Try.prog (look' ((100011, some ⟨[(intA (0)), (intA (0))], 35⟩) :: (100010, some ⟨[(intA (0)), (intA (0))], 35⟩) :: (mpushs (mpushs (mpushs m d2) d3) d8)) (topId (AV.ptr 100010 0) ++ (topId (AV.agg [(intA z6), (intA z7)]) ++ ([])))) 35 (AV.ptr 100010 0) (AV.agg [(intA z6), (intA z7)]) fun v13 d13 =>
storeW Try.prog (look' (mpushs ((100011, some ⟨[(intA (0)), (intA (0))], 35⟩) :: (100010, some ⟨[(intA (0)), (intA (0))], 35⟩) :: (mpushs (mpushs (mpushs m d2) d3) d8)) d13) (topId (AV.ptr 100011 0) ++ (topId (AV.agg [(intA z11), (intA z12)]) ++ ([])))) 35 (AV.ptr 100011 0) (AV.agg [(intA z11), (intA z12)]) fun v14 d14 =>
chk (confOk [0, 0, 3, 7, 0, 0, 48, 0, 0, 511, 1023] [⟨[], []⟩, ⟨[], []⟩, ⟨d2, []⟩, ⟨d3, (topId v2 ++ ([]))⟩, ⟨[], []⟩, ⟨[], []⟩, ⟨d8, ft8⟩, ⟨[(100010, some ⟨[(intA (0)), (intA (0))], 35⟩)], []⟩, ⟨[(100011, some ⟨[(intA (0)), (intA (0))], 35⟩)], []⟩, ⟨d13, (topId (AV.ptr 100010 0) ++ (topId (AV.agg [(intA z6), (intA z7)]) ++ ([])))⟩, ⟨d14, (topId (AV.ptr 100011 0) ++ (topId (AV.agg [(intA z11), (intA z12)]) ++ ([])))⟩]) (opP (ldA (mget (mpushs (mpushs ((100011, some ⟨[(intA (0)), (intA (0))], 35⟩) :: (100010, some ⟨[(intA (0)), (intA (0))], 35⟩) :: (mpushs (mpushs (mpushs m d2) d3) d8)) d13) d14)) 2 (AV.ptr 100010 0)) fun v15 =>
exA2 v15 fun c16 c17 =>
ex_i64 c16 fun z18 =>
ex_i64 c17 fun z19 =>
opP (ldA (mget (mpushs (mpushs ((100011, some ⟨[(intA (0)), (intA (0))], 35⟩) :: (100010, some ⟨[(intA (0)), (intA (0))], 35⟩) :: (mpushs (mpushs (mpushs m d2) d3) d8)) d13) d14)) 2 (AV.ptr 100011 0)) fun v20 =>
exA2 v20 fun c21 c22 =>
ex_i64 c21 fun z23 =>
ex_i64 c22 fun z24 =>
opN (bsl 100016 35 2 2 [(intA (0)), (intA (0))] [(0, (AV.agg [(intA z18), (intA z19)])), (1, (AV.agg [(intA z23), (intA z24)]))]) (mpushs (mpushs ((100011, some ⟨[(intA (0)), (intA (0))], 35⟩) :: (100010, some ⟨[(intA (0)), (intA (0))], 35⟩) :: (mpushs (mpushs (mpushs m d2) d3) d8)) d13) d14) fun v25 m25 =>
opP (lenS t1) fun v26 =>
ex_i64 v26 fun z27 =>
Tri Try.prog KK 127 0 (.loop c82_0_0) ⟨[(0, t0), (1, t1), (4, (boolA t4)), (17, (intA t17)), (18, (intA t18)), (19, (boolA (decide (t18 < t17)))), (20, (intA t18)), (5, (intA t18)), (21, t0), (22, (intA t18)), (23, v2), (24, (AV.agg [(intA z6), (intA z7)])), (25, t0), (26, (intA t18)), (27, (AV.agg [(intA z11), (intA z12)])), (6, (AV.ptr 100010 0)), (7, (AV.ptr 100011 0)), (28, (AV.agg [(intA z18), (intA z19)])), (29, (AV.agg [(intA z23), (intA z24)])), (30, v25), (8, v25), (31, t1), (32, (intA z27)), (33, (intA (0)))], m25, 100021⟩ (q82_0_0 R N0))) else (
retL R m [some (boolA false)])
theorem B82_0_eq (t0 : AV) (t1 : AV) (t4 : Bool) (t17 : Int) (t18 : Int) (m : Mem) (R : AV → Mem → Prop) (N0 : St → Prop) : W Try.prog KK 127 0 c82_0 (h82_0 t0 t1 t4 t17 t18 m) (qq82_0 R N0) = B82_0 t0 t1 t4 t17 t18 m R N0 := by kernel_rfl
theorem L82_0 (R : AV → Mem → Prop) {σ : Type} (I : σ → Prop) (t0 : σ → AV) (t1 : σ → AV) (t4 : σ → Bool) (t17 : σ → Int) (t18 : σ → Int) (m : σ → Mem) (μ : σ → Nat) (step : ∀ x, I x → B82_0 (t0 x) (t1 x) (t4 x) (t17 x) (t18 x) (m x) R (fun s' => ∃ y, I y ∧ μ y < μ x ∧ Weak KK 127 0 s' (h82_0 (t0 y) (t1 y) (t4 y) (t17 y) (t18 y) (m y)))) (x : σ) (hx : I x) {s : St} (hw : Weak KK 127 0 s (h82_0 (t0 x) (t1 x) (t4 x) (t17 x) (t18 x) (m x))) : Tri Try.prog KK 127 0 (.loop c82_0) s (q82_0 R) :=
  Tri.weak hw (Tri.loops fol I (fun x => h82_0 (t0 x) (t1 x) (t4 x) (t17 x) (t18 x) (m x)) μ (fun x hx => (B82_0_eq (t0 x) (t1 x) (t4 x) (t17 x) (t18 x) (m x) R _).mpr (step x hx)) x hx)
noncomputable def B82_0_0 (t0 : AV) (t1 : AV) (t4 : Bool) (t8 : AV) (t17 : Int) (t18 : Int) (t31 : AV) (t32 : Int) (t33 : Int) (m : Mem) (R : AV → Mem → Prop) (N0 : St → Prop) (N1 : St → Prop) : Prop :=
bif (decide (t33 < t32)) then (
opP (idxS 2 t31 (intA t33)) fun v28 =>
opP (ldA (mget m) 2 v28) fun v29 =>
exA2 v29 fun c30 c31 =>
ex_i64 c30 fun z32 =>
ex_i64 c31 fun z33 =>
opP (ldA (mget ((200003, some ⟨[(intA z32), (intA z33)], 35⟩) :: (200003, some ⟨[(intA (0)), (intA (0))], 35⟩) :: m)) 2 (AV.ptr 100010 0)) fun v34 =>
exA2 v34 fun c35 c36 =>
ex_i64 c35 fun z37 =>
ex_i64 c36 fun z38 =>
opP (ldA (mget ((200003, some ⟨[(intA z32), (intA z33)], 35⟩) :: (200003, some ⟨[(intA (0)), (intA (0))], 35⟩) :: m)) 2 (AV.ptr 100011 0)) fun v39 =>
exA2 v39 fun c40 c41 =>
ex_i64 c40 fun z42 =>
ex_i64 c41 fun z43 =>
callQ Try.prog KK.gl ((200003, some ⟨[(intA z32), (intA z33)], 35⟩) :: (200003, some ⟨[(intA (0)), (intA (0))], 35⟩) :: m) 84 [(AV.agg [(intA z37), (intA z38)]), (AV.agg [(intA z42), (intA z43)]), (AV.agg [(intA z32), (intA z33)])] fun v44 =>
exB v44 fun b45 =>
bif b45 then (
opN (bsl 200074 35 2 1 [(intA (0)), (intA (0))] [(0, (AV.agg [(intA z32), (intA z33)]))]) ((200003, some ⟨[(intA z32), (intA z33)], 35⟩) :: (200003, some ⟨[(intA (0)), (intA (0))], 35⟩) :: m) fun v46 m46 =>
opN (app (mget m46) 35 2 16 [(intA (0)), (intA (0))] 200075 t8 v46) m46 fun v47 m47 =>
N1 ⟨[(0, t0), (1, t1), (4, (boolA t4)), (6, (AV.ptr 100010 0)), (7, (AV.ptr 100011 0)), (8, v47), (17, (intA t17)), (18, (intA t18)), (31, t31), (32, (intA t32)), (33, (intA (IntKind.wrap .i64 (t33 + (1))))), (34, (boolA (decide (t33 < t32)))), (35, v28), (36, (AV.agg [(intA z32), (intA z33)])), (10, (AV.ptr 200003 0)), (37, (AV.agg [(intA z37), (intA z38)])), (38, (AV.agg [(intA z42), (intA z43)])), (39, (AV.agg [(intA z32), (intA z33)])), (40, (boolA b45)), (41, t8), (42, (AV.agg [(intA z32), (intA z33)])), (43, v46), (44, v47), (45, (intA (IntKind.wrap .i64 (t33 + (1)))))], m47, 200079⟩) else (
N1 ⟨[(0, t0), (1, t1), (4, (boolA t4)), (6, (AV.ptr 100010 0)), (7, (AV.ptr 100011 0)), (8, t8), (17, (intA t17)), (18, (intA t18)), (31, t31), (32, (intA t32)), (33, (intA (IntKind.wrap .i64 (t33 + (1))))), (34, (boolA (decide (t33 < t32)))), (35, v28), (36, (AV.agg [(intA z32), (intA z33)])), (10, (AV.ptr 200003 0)), (37, (AV.agg [(intA z37), (intA z38)])), (38, (AV.agg [(intA z42), (intA z43)])), (39, (AV.agg [(intA z32), (intA z33)])), (40, (boolA b45)), (45, (intA (IntKind.wrap .i64 (t33 + (1)))))], ((200003, some ⟨[(intA z32), (intA z33)], 35⟩) :: (200003, some ⟨[(intA (0)), (intA (0))], 35⟩) :: m), 200074⟩)) else (
callW Try.prog KK.gl m 200003 97 [t8, (AV.fn 98 [(AV.ptr 100010 0)])] fun v48 m48 =>
exT0 v48 <|
Tri Try.prog KK 127 0 (.loop c82_0_1) ⟨[(0, t0), (1, t1), (4, (boolA t4)), (6, (AV.ptr 100010 0)), (7, (AV.ptr 100011 0)), (8, t8), (17, (intA t17)), (18, (intA t18)), (31, t31), (32, (intA t32)), (33, (intA t33)), (34, (boolA (decide (t33 < t32)))), (46, t8), (47, (AV.fn 98 [(AV.ptr 100010 0)])), (48, (AV.tup [])), (11, (intA (1)))], m48, 200068⟩ (q82_0_1 R N0))
theorem B82_0_0_eq (t0 : AV) (t1 : AV) (t4 : Bool) (t8 : AV) (t17 : Int) (t18 : Int) (t31 : AV) (t32 : Int) (t33 : Int) (m : Mem) (R : AV → Mem → Prop) (N0 : St → Prop) (N1 : St → Prop) : W Try.prog KK 127 0 c82_0_0 (h82_0_0 t0 t1 t4 t8 t17 t18 t31 t32 t33 m) (qq82_0_0 R N0 N1) = B82_0_0 t0 t1 t4 t8 t17 t18 t31 t32 t33 m R N0 N1 := by kernel_rfl
theorem L82_0_0 (R : AV → Mem → Prop) (N0 : St → Prop) {σ : Type} (I : σ → Prop) (t0 : σ → AV) (t1 : σ → AV) (t4 : σ → Bool) (t8 : σ → AV) (t17 : σ → Int) (t18 : σ → Int) (t31 : σ → AV) (t32 : σ → Int) (t33 : σ → Int) (m : σ → Mem) (μ : σ → Nat) (step : ∀ x, I x → B82_0_0 (t0 x) (t1 x) (t4 x) (t8 x) (t17 x) (t18 x) (t31 x) (t32 x) (t33 x) (m x) R N0 (fun s' => ∃ y, I y ∧ μ y < μ x ∧ Weak KK 127 0 s' (h82_0_0 (t0 y) (t1 y) (t4 y) (t8 y) (t17 y) (t18 y) (t31 y) (t32 y) (t33 y) (m y)))) (x : σ) (hx : I x) {s : St} (hw : Weak KK 127 0 s (h82_0_0 (t0 x) (t1 x) (t4 x) (t8 x) (t17 x) (t18 x) (t31 x) (t32 x) (t33 x) (m x))) : Tri Try.prog KK 127 0 (.loop c82_0_0) s (q82_0_0 R N0) :=
  Tri.weak hw (Tri.loops fol I (fun x => h82_0_0 (t0 x) (t1 x) (t4 x) (t8 x) (t17 x) (t18 x) (t31 x) (t32 x) (t33 x) (m x)) μ (fun x hx => (B82_0_0_eq (t0 x) (t1 x) (t4 x) (t8 x) (t17 x) (t18 x) (t31 x) (t32 x) (t33 x) (m x) R N0 _).mpr (step x hx)) x hx)
noncomputable def B82_0_1 (t0 : AV) (t1 : AV) (t4 : Bool) (t8 : AV) (t11 : Int) (t17 : Int) (t18 : Int) (m : Mem) (R : AV → Mem → Prop) (N0 : St → Prop) (N1 : St → Prop) : Prop :=
opP (lenS t8) fun v49 =>
ex_i64 v49 fun z50 =>
bif (decide (t11 < z50)) then (
opP (idxS 2 t8 (intA t11)) fun v51 =>
opP (ldA (mget m) 2 v51) fun v52 =>
exA2 v52 fun c53 c54 =>
ex_i64 c53 fun z55 =>
ex_i64 c54 fun z56 =>
opP (idxS 2 t8 (intA (IntKind.wrap .i64 (t11 - (1))))) fun v57 =>
opP (ldA (mget m) 2 v57) fun v58 =>
exA2 v58 fun c59 c60 =>
ex_i64 c59 fun z61 =>
ex_i64 c60 fun z62 =>
opP (opA Try.prog (.binOp .eql 35 (.tmp 0) (.tmp 1) 35) 4 [(AV.agg [(intA z55), (intA z56)]), (AV.agg [(intA z61), (intA z62)])] (mget m) 300013) fun v63 =>
exB v63 fun b64 =>
bif b64 then (
N1 ⟨[(0, t0), (1, t1), (4, (boolA t4)), (6, (AV.ptr 100010 0)), (7, (AV.ptr 100011 0)), (8, t8), (11, (intA (IntKind.wrap .i64 (t11 + (1))))), (17, (intA t17)), (18, (intA t18)), (49, (intA t11)), (50, t8), (51, (intA z50)), (52, (boolA (decide (t11 < z50)))), (55, t8), (56, (intA t11)), (57, v51), (58, (AV.agg [(intA z55), (intA z56)])), (59, t8), (60, (intA t11)), (61, (intA (IntKind.wrap .i64 (t11 - (1))))), (62, v57), (63, (AV.agg [(intA z61), (intA z62)])), (64, (boolA b64)), (53, (intA t11)), (54, (intA (IntKind.wrap .i64 (t11 + (1)))))], m, 300017⟩) else (
opM (idxS 2 t8 (intA t11)) fun v65 d65 =>
opM (fldO 0 v65) fun v66 d66 =>
opM (ldS (look' (mpushs (mpushs m d65) d66) (topId v66 ++ ([]))) v66) fun v67 d67 =>
ex_i64 v67 fun z68 =>
opM (idxS 2 t8 (intA (IntKind.wrap .i64 (t11 - (1))))) fun v69 d69 =>
opM (fldO 0 v69) fun v70 d70 =>
opM (ldS (look' (mpushs (mpushs (mpushs (mpushs (mpushs m d65) d66) d67) d69) d70) (topId v70 ++ ([]))) v70) fun v71 d71 =>
ex_i64 v71 fun z72 =>
opM (idxS 2 t8 (intA t11)) fun v73 d73 =>
opM (fldO 1 v73) fun v74 d74 =>
opM (ldS (look' (mpushs (mpushs (mpushs (mpushs (mpushs (mpushs (mpushs (mpushs m d65) d66) d67) d69) d70) d71) d73) d74) (topId v74 ++ ([]))) v74) fun v75 d75 =>
ex_i64 v75 fun z76 =>
opM (idxS 2 t8 (intA (IntKind.wrap .i64 (t11 - (1))))) fun v77 d77 =>
opM (fldO 1 v77) fun v78 d78 =>
opM (ldS (look' (mpushs (mpushs (mpushs (mpushs (mpushs (mpushs (mpushs (mpushs (mpushs (mpushs (mpushs m d65) d66) d67) d69) d70) d71) d73) d74) d75) d77) d78) (topId v78 ++ ([]))) v78) fun v79 d79 =>
ex_i64 v79 fun z80 =>
opM (bld [(intA (0)), (intA (0))] [(0, 1), (1, 1)] [(0, (intA (IntKind.wrap .i64 (Int.tdiv (IntKind.wrap .i64 (z68 + z72)) (2))))), (1, (intA (IntKind.wrap .i64 (Int.tdiv (IntKind.wrap .i64 (z76 + z80)) (2)))))]) fun v81 d81 =>
storeW Try.prog (look' ((300041, some ⟨[(intA (0)), (intA (0))], 35⟩) :: (mpushs (mpushs (mpushs (mpushs (mpushs (mpushs (mpushs (mpushs (mpushs (mpushs (mpushs (mpushs (mpushs m d65) d66) d67) d69) d70) d71) d73) d74) d75) d77) d78) d79) d81)) (topId (AV.ptr 300041 0) ++ (topId v81 ++ ([])))) 35 (AV.ptr 300041 0) v81 fun v82 d82 =>
chk (confOk [0, 0, 3, 7, 15, 0, 0, 64, 224, 480, 992, 2047, 4095, 0, 0, 24576, 57344, 122880, 0, 0, 524288, 1835008, 3932160, 8126464, 16769024, 33546240, 67108863, 0, 268435455] [⟨[], []⟩, ⟨[], []⟩, ⟨d65, []⟩, ⟨d66, []⟩, ⟨d67, (topId v66 ++ ([]))⟩, ⟨[], []⟩, ⟨[], []⟩, ⟨[], []⟩, ⟨d69, []⟩, ⟨d70, []⟩, ⟨d71, (topId v70 ++ ([]))⟩, ⟨[], []⟩, ⟨[], []⟩, ⟨[], []⟩, ⟨[], []⟩, ⟨d73, []⟩, ⟨d74, []⟩, ⟨d75, (topId v74 ++ ([]))⟩, ⟨[], []⟩, ⟨[], []⟩, ⟨[], []⟩, ⟨d77, []⟩, ⟨d78, []⟩, ⟨d79, (topId v78 ++ ([]))⟩, ⟨[], []⟩, ⟨[], []⟩, ⟨d81, []⟩, ⟨[(300041, some ⟨[(intA (0)), (intA (0))], 35⟩)], []⟩, ⟨d82, (topId (AV.ptr 300041 0) ++ (topId v81 ++ ([])))⟩]) (opP (ldA (mget (mpushs ((300041, some ⟨[(intA (0)), (intA (0))], 35⟩) :: (mpushs (mpushs (mpushs (mpushs (mpushs (mpushs (mpushs (mpushs (mpushs (mpushs (mpushs (mpushs (mpushs m d65) d66) d67) d69) d70) d71) d73) d74) d75) d77) d78) d79) d81)) d82)) 2 (AV.ptr 300041 0)) fun v83 =>
exA2 v83 fun c84 c85 =>
ex_i64 c84 fun z86 =>
ex_i64 c85 fun z87 =>
callQ Try.prog KK.gl (mpushs ((300041, some ⟨[(intA (0)), (intA (0))], 35⟩) :: (mpushs (mpushs (mpushs (mpushs (mpushs (mpushs (mpushs (mpushs (mpushs (mpushs (mpushs (mpushs (mpushs m d65) d66) d67) d69) d70) d71) d73) d74) d75) d77) d78) d79) d81)) d82) 76 [t1, (AV.agg [(intA z86), (intA z87)])] fun v88 =>
ex_i64 v88 fun z89 =>
bif (z89 == (1)) then (
retL R (mpushs ((300041, some ⟨[(intA (0)), (intA (0))], 35⟩) :: (mpushs (mpushs (mpushs (mpushs (mpushs (mpushs (mpushs (mpushs (mpushs (mpushs (mpushs (mpushs (mpushs m d65) d66) d67) d69) d70) d71) d73) d74) d75) d77) d78) d79) d81)) d82) [some (boolA true)]) else (
bif (z89 == (0)) then (
opP (lenS t1) fun v90 =>
ex_i64 v90 fun z91 =>
Tri Try.prog KK 127 0 (.loop c82_0_1_0) ⟨[(0, t0), (1, t1), (4, (boolA t4)), (6, (AV.ptr 100010 0)), (7, (AV.ptr 100011 0)), (8, t8), (11, (intA t11)), (17, (intA t17)), (18, (intA t18)), (49, (intA t11)), (50, t8), (51, (intA z50)), (52, (boolA (decide (t11 < z50)))), (55, t8), (56, (intA t11)), (57, v51), (58, (AV.agg [(intA z55), (intA z56)])), (59, t8), (60, (intA t11)), (61, (intA (IntKind.wrap .i64 (t11 - (1))))), (62, v57), (63, (AV.agg [(intA z61), (intA z62)])), (64, (boolA b64)), (65, t8), (66, (intA t11)), (67, v65), (68, v66), (69, (intA z68)), (70, t8), (71, (intA t11)), (72, (intA (IntKind.wrap .i64 (t11 - (1))))), (73, v69), (74, v70), (75, (intA z72)), (76, (intA (IntKind.wrap .i64 (z68 + z72)))), (77, (intA (IntKind.wrap .i64 (Int.tdiv (IntKind.wrap .i64 (z68 + z72)) (2))))), (78, t8), (79, (intA t11)), (80, v73), (81, v74), (82, (intA z76)), (83, t8), (84, (intA t11)), (85, (intA (IntKind.wrap .i64 (t11 - (1))))), (86, v77), (87, v78), (88, (intA z80)), (89, (intA (IntKind.wrap .i64 (z76 + z80)))), (90, (intA (IntKind.wrap .i64 (Int.tdiv (IntKind.wrap .i64 (z76 + z80)) (2))))), (91, v81), (12, (AV.ptr 300041 0)), (92, t1), (93, (AV.agg [(intA z86), (intA z87)])), (94, (intA z89)), (96, (boolA (z89 == (1)))), (95, (boolA (z89 == (1)))), (98, (boolA (z89 == (0)))), (97, (boolA (z89 == (0)))), (99, t1), (100, (intA z91)), (101, (intA (0)))], (mpushs ((300041, some ⟨[(intA (0)), (intA (0))], 35⟩) :: (mpushs (mpushs (mpushs (mpushs (mpushs (mpushs (mpushs (mpushs (mpushs (mpushs (mpushs (mpushs (mpushs m d65) d66) d67) d69) d70) d71) d73) d74) d75) d77) d78) d79) d81)) d82), 300116⟩ (q82_0_1_0 R N0 N1)) else (
N1 ⟨[(0, t0), (1, t1), (4, (boolA t4)), (6, (AV.ptr 100010 0)), (7, (AV.ptr 100011 0)), (8, t8), (11, (intA (IntKind.wrap .i64 (t11 + (1))))), (17, (intA t17)), (18, (intA t18)), (49, (intA t11)), (50, t8), (51, (intA z50)), (52, (boolA (decide (t11 < z50)))), (55, t8), (56, (intA t11)), (57, v51), (58, (AV.agg [(intA z55), (intA z56)])), (59, t8), (60, (intA t11)), (61, (intA (IntKind.wrap .i64 (t11 - (1))))), (62, v57), (63, (AV.agg [(intA z61), (intA z62)])), (64, (boolA b64)), (65, t8), (66, (intA t11)), (67, v65), (68, v66), (69, (intA z68)), (70, t8), (71, (intA t11)), (72, (intA (IntKind.wrap .i64 (t11 - (1))))), (73, v69), (74, v70), (75, (intA z72)), (76, (intA (IntKind.wrap .i64 (z68 + z72)))), (77, (intA (IntKind.wrap .i64 (Int.tdiv (IntKind.wrap .i64 (z68 + z72)) (2))))), (78, t8), (79, (intA t11)), (80, v73), (81, v74), (82, (intA z76)), (83, t8), (84, (intA t11)), (85, (intA (IntKind.wrap .i64 (t11 - (1))))), (86, v77), (87, v78), (88, (intA z80)), (89, (intA (IntKind.wrap .i64 (z76 + z80)))), (90, (intA (IntKind.wrap .i64 (Int.tdiv (IntKind.wrap .i64 (z76 + z80)) (2))))), (91, v81), (12, (AV.ptr 300041 0)), (92, t1), (93, (AV.agg [(intA z86), (intA z87)])), (94, (intA z89)), (96, (boolA (z89 == (1)))), (95, (boolA (z89 == (1)))), (98, (boolA (z89 == (0)))), (97, (boolA (z89 == (0)))), (53, (intA t11)), (54, (intA (IntKind.wrap .i64 (t11 + (1)))))], (mpushs ((300041, some ⟨[(intA (0)), (intA (0))], 35⟩) :: (mpushs (mpushs (mpushs (mpushs (mpushs (mpushs (mpushs (mpushs (mpushs (mpushs (mpushs (mpushs (mpushs m d65) d66) d67) d69) d70) d71) d73) d74) d75) d77) d78) d79) d81)) d82), 300116⟩))))) else (
N0 ⟨[(0, t0), (1, t1), (4, (boolA t4)), (6, (AV.ptr 100010 0)), (7, (AV.ptr 100011 0)), (8, t8), (11, (intA t11)), (17, (intA t17)), (18, (intA (IntKind.wrap .i64 (t18 + (1))))), (49, (intA t11)), (50, t8), (51, (intA z50)), (52, (boolA (decide (t11 < z50)))), (126, (intA (IntKind.wrap .i64 (t18 + (1)))))], m, 300006⟩)
theorem B82_0_1_eq (t0 : AV) (t1 : AV) (t4 : Bool) (t8 : AV) (t11 : Int) (t17 : Int) (t18 : Int) (m : Mem) (R : AV → Mem → Prop) (N0 : St → Prop) (N1 : St → Prop) : W Try.prog KK 127 0 c82_0_1 (h82_0_1 t0 t1 t4 t8 t11 t17 t18 m) (qq82_0_1 R N0 N1) = B82_0_1 t0 t1 t4 t8 t11 t17 t18 m R N0 N1 := by kernel_rfl
theorem L82_0_1 (R : AV → Mem → Prop) (N0 : St → Prop) {σ : Type} (I : σ → Prop) (t0 : σ → AV) (t1 : σ → AV) (t4 : σ → Bool) (t8 : σ → AV) (t11 : σ → Int) (t17 : σ → Int) (t18 : σ → Int) (m : σ → Mem) (μ : σ → Nat) (step : ∀ x, I x → B82_0_1 (t0 x) (t1 x) (t4 x) (t8 x) (t11 x) (t17 x) (t18 x) (m x) R N0 (fun s' => ∃ y, I y ∧ μ y < μ x ∧ Weak KK 127 0 s' (h82_0_1 (t0 y) (t1 y) (t4 y) (t8 y) (t11 y) (t17 y) (t18 y) (m y)))) (x : σ) (hx : I x) {s : St} (hw : Weak KK 127 0 s (h82_0_1 (t0 x) (t1 x) (t4 x) (t8 x) (t11 x) (t17 x) (t18 x) (m x))) : Tri Try.prog KK 127 0 (.loop c82_0_1) s (q82_0_1 R N0) :=
  Tri.weak hw (Tri.loops fol I (fun x => h82_0_1 (t0 x) (t1 x) (t4 x) (t8 x) (t11 x) (t17 x) (t18 x) (m x)) μ (fun x hx => (B82_0_1_eq (t0 x) (t1 x) (t4 x) (t8 x) (t11 x) (t17 x) (t18 x) (m x) R N0 _).mpr (step x hx)) x hx)
noncomputable def B82_0_1_0 (t0 : AV) (t1 : AV) (t4 : Bool) (t8 : AV) (t11 : Int) (t17 : Int) (t18 : Int) (t100 : Int) (t101 : Int) (m : Mem) (R : AV → Mem → Prop) (N0 : St → Prop) (N1 : St → Prop) (N2 : St → Prop) : Prop :=
bif (decide (t101 < t100)) then (
opM (idxS 2 t1 (intA t101)) fun v92 d92 =>
opM (ldA (look' (mpushs m d92) (topId v92 ++ ([]))) 2 v92) fun v93 d93 =>
exA2 v93 fun c94 c95 =>
ex_i64 c94 fun z96 =>
ex_i64 c95 fun z97 =>
callF Try.prog KK.gl (mpushs (mpushs m d92) d93) 400009 72 [t1, (intA t101)] fun v98 d98 ft98 =>
exA2 v98 fun c99 c100 =>
ex_i64 c99 fun z101 =>
ex_i64 c100 fun z102 =>
storeW Try.prog (look' ((400011, some ⟨[(intA (0)), (intA (0))], 35⟩) :: (400010, some ⟨[(intA (0)), (intA (0))], 35⟩) :: (mpushs (mpushs (mpushs m d92) d93) d98)) (topId (AV.ptr 400010 0) ++ (topId (AV.agg [(intA z96), (intA z97)]) ++ ([])))) 35 (AV.ptr 400010 0) (AV.agg [(intA z96), (intA z97)]) fun v103 d103 =>
storeW Try.prog (look' (mpushs ((400011, some ⟨[(intA (0)), (intA (0))], 35⟩) :: (400010, some ⟨[(intA (0)), (intA (0))], 35⟩) :: (mpushs (mpushs (mpushs m d92) d93) d98)) d103) (topId (AV.ptr 400011 0) ++ (topId (AV.agg [(intA z101), (intA z102)]) ++ ([])))) 35 (AV.ptr 400011 0) (AV.agg [(intA z101), (intA z102)]) fun v104 d104 =>
chk (confOk [0, 0, 3, 7, 0, 0, 48, 0, 0, 511, 1023] [⟨[], []⟩, ⟨[], []⟩, ⟨d92, []⟩, ⟨d93, (topId v92 ++ ([]))⟩, ⟨[], []⟩, ⟨[], []⟩, ⟨d98, ft98⟩, ⟨[(400010, some ⟨[(intA (0)), (intA (0))], 35⟩)], []⟩, ⟨[(400011, some ⟨[(intA (0)), (intA (0))], 35⟩)], []⟩, ⟨d103, (topId (AV.ptr 400010 0) ++ (topId (AV.agg [(intA z96), (intA z97)]) ++ ([])))⟩, ⟨d104, (topId (AV.ptr 400011 0) ++ (topId (AV.agg [(intA z101), (intA z102)]) ++ ([])))⟩]) (opP (ldA (mget (mpushs (mpushs ((400011, some ⟨[(intA (0)), (intA (0))], 35⟩) :: (400010, some ⟨[(intA (0)), (intA (0))], 35⟩) :: (mpushs (mpushs (mpushs m d92) d93) d98)) d103) d104)) 2 (AV.ptr 400010 0)) fun v105 =>
exA2 v105 fun c106 c107 =>
ex_i64 c106 fun z108 =>
ex_i64 c107 fun z109 =>
opP (ldA (mget (mpushs (mpushs ((400011, some ⟨[(intA (0)), (intA (0))], 35⟩) :: (400010, some ⟨[(intA (0)), (intA (0))], 35⟩) :: (mpushs (mpushs (mpushs m d92) d93) d98)) d103) d104)) 2 (AV.ptr 400011 0)) fun v110 =>
exA2 v110 fun c111 c112 =>
ex_i64 c111 fun z113 =>
ex_i64 c112 fun z114 =>
opP (ldA (mget (mpushs (mpushs ((400011, some ⟨[(intA (0)), (intA (0))], 35⟩) :: (400010, some ⟨[(intA (0)), (intA (0))], 35⟩) :: (mpushs (mpushs (mpushs m d92) d93) d98)) d103) d104)) 2 (AV.ptr 300041 0)) fun v115 =>
exA2 v115 fun c116 c117 =>
ex_i64 c116 fun z118 =>
ex_i64 c117 fun z119 =>
callQ Try.prog KK.gl (mpushs (mpushs ((400011, some ⟨[(intA (0)), (intA (0))], 35⟩) :: (400010, some ⟨[(intA (0)), (intA (0))], 35⟩) :: (mpushs (mpushs (mpushs m d92) d93) d98)) d103) d104) 84 [(AV.agg [(intA z108), (intA z109)]), (AV.agg [(intA z113), (intA z114)]), (AV.agg [(intA z118), (intA z119)])] fun v120 =>
exB v120 fun b121 =>
bif b121 then (
opP (ldA (mget (mpushs (mpushs ((400011, some ⟨[(intA (0)), (intA (0))], 35⟩) :: (400010, some ⟨[(intA (0)), (intA (0))], 35⟩) :: (mpushs (mpushs (mpushs m d92) d93) d98)) d103) d104)) 2 (AV.ptr 100011 0)) fun v122 =>
exA2 v122 fun c123 c124 =>
ex_i64 c123 fun z125 =>
ex_i64 c124 fun z126 =>
opP (ldA (mget (mpushs (mpushs ((400011, some ⟨[(intA (0)), (intA (0))], 35⟩) :: (400010, some ⟨[(intA (0)), (intA (0))], 35⟩) :: (mpushs (mpushs (mpushs m d92) d93) d98)) d103) d104)) 2 (AV.ptr 100010 0)) fun v127 =>
exA2 v127 fun c128 c129 =>
ex_i64 c128 fun z130 =>
ex_i64 c129 fun z131 =>
callQ Try.prog KK.gl (mpushs (mpushs ((400011, some ⟨[(intA (0)), (intA (0))], 35⟩) :: (400010, some ⟨[(intA (0)), (intA (0))], 35⟩) :: (mpushs (mpushs (mpushs m d92) d93) d98)) d103) d104) 83 [(AV.agg [(intA z125), (intA z126)]), (AV.agg [(intA z130), (intA z131)])] fun v132 =>
exA2 v132 fun c133 c134 =>
ex_i64 c133 fun z135 =>
ex_i64 c134 fun z136 =>
opP (ldA (mget (mpushs (mpushs ((400011, some ⟨[(intA (0)), (intA (0))], 35⟩) :: (400010, some ⟨[(intA (0)), (intA (0))], 35⟩) :: (mpushs (mpushs (mpushs m d92) d93) d98)) d103) d104)) 2 (AV.ptr 400011 0)) fun v137 =>
exA2 v137 fun c138 c139 =>
ex_i64 c138 fun z140 =>
ex_i64 c139 fun z141 =>
opP (ldA (mget (mpushs (mpushs ((400011, some ⟨[(intA (0)), (intA (0))], 35⟩) :: (400010, some ⟨[(intA (0)), (intA (0))], 35⟩) :: (mpushs (mpushs (mpushs m d92) d93) d98)) d103) d104)) 2 (AV.ptr 400010 0)) fun v142 =>
exA2 v142 fun c143 c144 =>
ex_i64 c143 fun z145 =>
ex_i64 c144 fun z146 =>
callQ Try.prog KK.gl (mpushs (mpushs ((400011, some ⟨[(intA (0)), (intA (0))], 35⟩) :: (400010, some ⟨[(intA (0)), (intA (0))], 35⟩) :: (mpushs (mpushs (mpushs m d92) d93) d98)) d103) d104) 83 [(AV.agg [(intA z140), (intA z141)]), (AV.agg [(intA z145), (intA z146)])] fun v147 =>
exA2 v147 fun c148 c149 =>
ex_i64 c148 fun z150 =>
ex_i64 c149 fun z151 =>
callQ Try.prog KK.gl (mpushs (mpushs ((400011, some ⟨[(intA (0)), (intA (0))], 35⟩) :: (400010, some ⟨[(intA (0)), (intA (0))], 35⟩) :: (mpushs (mpushs (mpushs m d92) d93) d98)) d103) d104) 100 [(AV.agg [(intA z135), (intA z136)]), (AV.agg [(intA z150), (intA z151)])] fun v152 =>
ex_i64 v152 fun z153 =>
bif (decide (z153 > (0))) then (
retL R (mpushs (mpushs ((400011, some ⟨[(intA (0)), (intA (0))], 35⟩) :: (400010, some ⟨[(intA (0)), (intA (0))], 35⟩) :: (mpushs (mpushs (mpushs m d92) d93) d98)) d103) d104) [some (boolA true)]) else (
N2 ⟨[(0, t0), (1, t1), (4, (boolA t4)), (6, (AV.ptr 100010 0)), (7, (AV.ptr 100011 0)), (8, t8), (11, (intA t11)), (12, (AV.ptr 300041 0)), (17, (intA t17)), (18, (intA t18)), (100, (intA t100)), (101, (intA (IntKind.wrap .i64 (t101 + (1))))), (102, (boolA (decide (t101 < t100)))), (103, (intA t101)), (13, (intA t101)), (104, t1), (105, (intA t101)), (106, v92), (107, (AV.agg [(intA z96), (intA z97)])), (108, t1), (109, (intA t101)), (110, (AV.agg [(intA z101), (intA z102)])), (14, (AV.ptr 400010 0)), (15, (AV.ptr 400011 0)), (111, (AV.agg [(intA z108), (intA z109)])), (112, (AV.agg [(intA z113), (intA z114)])), (113, (AV.agg [(intA z118), (intA z119)])), (114, (boolA b121)), (115, (boolA true)), (116, (AV.agg [(intA z125), (intA z126)])), (117, (AV.agg [(intA z130), (intA z131)])), (118, (AV.agg [(intA z135), (intA z136)])), (119, (AV.agg [(intA z140), (intA z141)])), (120, (AV.agg [(intA z145), (intA z146)])), (121, (AV.agg [(intA z150), (intA z151)])), (122, (intA z153)), (123, (boolA (decide (z153 > (0))))), (124, (boolA (decide (z153 > (0))))), (125, (intA (IntKind.wrap .i64 (t101 + (1)))))], (mpushs (mpushs ((400011, some ⟨[(intA (0)), (intA (0))], 35⟩) :: (400010, some ⟨[(intA (0)), (intA (0))], 35⟩) :: (mpushs (mpushs (mpushs m d92) d93) d98)) d103) d104), 400030⟩)) else (
N2 ⟨[(0, t0), (1, t1), (4, (boolA t4)), (6, (AV.ptr 100010 0)), (7, (AV.ptr 100011 0)), (8, t8), (11, (intA t11)), (12, (AV.ptr 300041 0)), (17, (intA t17)), (18, (intA t18)), (100, (intA t100)), (101, (intA (IntKind.wrap .i64 (t101 + (1))))), (102, (boolA (decide (t101 < t100)))), (103, (intA t101)), (13, (intA t101)), (104, t1), (105, (intA t101)), (106, v92), (107, (AV.agg [(intA z96), (intA z97)])), (108, t1), (109, (intA t101)), (110, (AV.agg [(intA z101), (intA z102)])), (14, (AV.ptr 400010 0)), (15, (AV.ptr 400011 0)), (111, (AV.agg [(intA z108), (intA z109)])), (112, (AV.agg [(intA z113), (intA z114)])), (113, (AV.agg [(intA z118), (intA z119)])), (114, (boolA b121)), (115, (boolA false)), (116, (AV.tup [])), (117, (AV.tup [])), (118, (AV.tup [])), (119, (AV.tup [])), (120, (AV.tup [])), (121, (AV.tup [])), (122, (AV.tup [])), (123, (AV.tup [])), (124, (boolA false)), (125, (intA (IntKind.wrap .i64 (t101 + (1)))))], (mpushs (mpushs ((400011, some ⟨[(intA (0)), (intA (0))], 35⟩) :: (400010, some ⟨[(intA (0)), (intA (0))], 35⟩) :: (mpushs (mpushs (mpushs m d92) d93) d98)) d103) d104), 400030⟩))) else (
N1 ⟨[(0, t0), (1, t1), (4, (boolA t4)), (6, (AV.ptr 100010 0)), (7, (AV.ptr 100011 0)), (8, t8), (11, (intA (IntKind.wrap .i64 (t11 + (1))))), (12, (AV.ptr 300041 0)), (17, (intA t17)), (18, (intA t18)), (100, (intA t100)), (101, (intA t101)), (102, (boolA (decide (t101 < t100)))), (53, (intA t11)), (54, (intA (IntKind.wrap .i64 (t11 + (1)))))], m, 400004⟩)
theorem B82_0_1_0_eq (t0 : AV) (t1 : AV) (t4 : Bool) (t8 : AV) (t11 : Int) (t17 : Int) (t18 : Int) (t100 : Int) (t101 : Int) (m : Mem) (R : AV → Mem → Prop) (N0 : St → Prop) (N1 : St → Prop) (N2 : St → Prop) : W Try.prog KK 127 0 c82_0_1_0 (h82_0_1_0 t0 t1 t4 t8 t11 t17 t18 t100 t101 m) (qq82_0_1_0 R N0 N1 N2) = B82_0_1_0 t0 t1 t4 t8 t11 t17 t18 t100 t101 m R N0 N1 N2 := by kernel_rfl
theorem L82_0_1_0 (R : AV → Mem → Prop) (N0 : St → Prop) (N1 : St → Prop) {σ : Type} (I : σ → Prop) (t0 : σ → AV) (t1 : σ → AV) (t4 : σ → Bool) (t8 : σ → AV) (t11 : σ → Int) (t17 : σ → Int) (t18 : σ → Int) (t100 : σ → Int) (t101 : σ → Int) (m : σ → Mem) (μ : σ → Nat) (step : ∀ x, I x → B82_0_1_0 (t0 x) (t1 x) (t4 x) (t8 x) (t11 x) (t17 x) (t18 x) (t100 x) (t101 x) (m x) R N0 N1 (fun s' => ∃ y, I y ∧ μ y < μ x ∧ Weak KK 127 0 s' (h82_0_1_0 (t0 y) (t1 y) (t4 y) (t8 y) (t11 y) (t17 y) (t18 y) (t100 y) (t101 y) (m y)))) (x : σ) (hx : I x) {s : St} (hw : Weak KK 127 0 s (h82_0_1_0 (t0 x) (t1 x) (t4 x) (t8 x) (t11 x) (t17 x) (t18 x) (t100 x) (t101 x) (m x))) : Tri Try.prog KK 127 0 (.loop c82_0_1_0) s (q82_0_1_0 R N0 N1) :=
  Tri.weak hw (Tri.loops fol I (fun x => h82_0_1_0 (t0 x) (t1 x) (t4 x) (t8 x) (t11 x) (t17 x) (t18 x) (t100 x) (t101 x) (m x)) μ (fun x hx => (B82_0_1_0_eq (t0 x) (t1 x) (t4 x) (t8 x) (t11 x) (t17 x) (t18 x) (t100 x) (t101 x) (m x) R N0 N1 _).mpr (step x hx)) x hx)
noncomputable def F82 (a0 : AV) (a1 : AV) (R : AV → Mem → Prop) : Prop :=
opP (lenS a0) fun v0 =>
ex_i64 v0 fun z1 =>
Tri Try.prog KK 127 0 (.loop c82_0) ⟨[(0, a0), (1, a1), (4, (boolA false)), (16, a0), (17, (intA z1)), (18, (intA (0)))], [], 4⟩ (q82_0 R)
theorem F82_own (a0 : AV) (a1 : AV) (R : AV → Mem → Prop) (h : F82 a0 a1 R) : Own Try.prog KK.gl 82 [a0, a1] R := own_of_F fol Try.func82 (code := c82) (by kernel_rfl) (by kernel_rfl) (by kernel_rfl) (X := F82 a0 a1 R) (by kernel_rfl) h
/- skyway/polygon.Overlap -/
noncomputable def c69 : Code := ((Try.f69).body).getD .skip
noncomputable def q69 (R : AV → Mem → Prop) : AExit → St → Prop := retQ Try.prog Try.f69 R
noncomputable def c69_0 : Code := loopB c69 0
noncomputable def q69_0 (R : AV → Mem → Prop) : AExit → St → Prop := contW Try.prog KK 64 0 c69 0 (q69 R)
noncomputable def qq69_0 (R : AV → Mem → Prop) (N0 : St → Prop) : AExit → St → Prop := thenQ N0 (q69_0 R)
def h69_0 (t0 : AV) (t1 : AV) (t4 : Bool) (t5 : Int) (t13 : AV) (t14 : Int) (t15 : Int) (m : Mem) : St := ⟨[(0, t0), (1, t1), (4, (boolA t4)), (5, (intA t5)), (13, t13), (14, (intA t14)), (15, (intA t15))], m, 100000⟩
noncomputable def c69_1 : Code := loopB c69 1
noncomputable def q69_1 (R : AV → Mem → Prop) : AExit → St → Prop := contW Try.prog KK 64 0 c69 1 (q69 R)
noncomputable def qq69_1 (R : AV → Mem → Prop) (N0 : St → Prop) : AExit → St → Prop := thenQ N0 (q69_1 R)
def h69_1 (t0 : AV) (t1 : AV) (t4 : Bool) (t5 : Int) (t26 : Int) (t27 : Int) (m : Mem) : St := ⟨[(0, t0), (1, t1), (4, (boolA t4)), (5, (intA t5)), (26, (intA t26)), (27, (intA t27))], m, 200000⟩
noncomputable def c69_1_0 : Code := loopB c69_1 0
noncomputable def q69_1_0 (R : AV → Mem → Prop) (N0 : St → Prop) : AExit → St → Prop := contW Try.prog KK 64 0 c69_1 0 (qq69_1 R N0)
noncomputable def qq69_1_0 (R : AV → Mem → Prop) (N0 : St → Prop) (N1 : St → Prop) : AExit → St → Prop := thenQ N1 (q69_1_0 R N0)
def h69_1_0 (t0 : AV) (t1 : AV) (t4 : Bool) (t5 : Int) (t9 : Int) (t26 : Int) (t27 : Int) (t31 : Int) (t32 : Int) (m : Mem) : St := ⟨[(0, t0), (1, t1), (4, (boolA t4)), (5, (intA t5)), (9, (intA t9)), (26, (intA t26)), (27, (intA t27)), (31, (intA t31)), (32, (intA t32))], m, 300000⟩
noncomputable def B69_0 (t0 : AV) (t1 : AV) (t4 : Bool) (t5 : Int) (t13 : AV) (t14 : Int) (t15 : Int) (m : Mem) (R : AV → Mem → Prop) (N0 : St → Prop) : Prop :=
bif (decide (t15 < t14)) then (
opP (idxS 1 t13 (intA t15)) fun v3 =>
opP (ldS (mget m) v3) fun v4 =>
callQ Try.prog KK.gl m 52 [v4] fun v5 =>
ex_i64 v5 fun z6 =>
bif (z6 != (0)) then (
retL R m [some (boolA false), some (intA z6)]) else (
N0 ⟨[(0, t0), (1, t1), (4, (boolA t4)), (5, (intA t5)), (13, t13), (14, (intA t14)), (15, (intA (IntKind.wrap .i64 (t15 + (1))))), (16, (boolA (decide (t15 < t14)))), (17, v3), (18, v4), (7, v4), (19, v4), (20, (intA z6)), (8, (intA z6)), (21, (intA z6)), (22, (boolA (z6 != (0)))), (24, (intA (IntKind.wrap .i64 (t15 + (1)))))], m, 100074⟩)) else (
opP (lenS t0) fun v7 =>
ex_i64 v7 fun z8 =>
Tri Try.prog KK 64 0 (.loop c69_1) ⟨[(0, t0), (1, t1), (4, (boolA t4)), (5, (intA t5)), (13, t13), (14, (intA t14)), (15, (intA t15)), (16, (boolA (decide (t15 < t14)))), (25, t0), (26, (intA z8)), (27, (intA (0)))], m, 100004⟩ (q69_1 R))
theorem B69_0_eq (t0 : AV) (t1 : AV) (t4 : Bool) (t5 : Int) (t13 : AV) (t14 : Int) (t15 : Int) (m : Mem) (R : AV → Mem → Prop) (N0 : St → Prop) : W Try.prog KK 64 0 c69_0 (h69_0 t0 t1 t4 t5 t13 t14 t15 m) (qq69_0 R N0) = B69_0 t0 t1 t4 t5 t13 t14 t15 m R N0 := by kernel_rfl
theorem L69_0 (R : AV → Mem → Prop) {σ : Type} (I : σ → Prop) (t0 : σ → AV) (t1 : σ → AV) (t4 : σ → Bool) (t5 : σ → Int) (t13 : σ → AV) (t14 : σ → Int) (t15 : σ → Int) (m : σ → Mem) (μ : σ → Nat) (step : ∀ x, I x → B69_0 (t0 x) (t1 x) (t4 x) (t5 x) (t13 x) (t14 x) (t15 x) (m x) R (fun s' => ∃ y, I y ∧ μ y < μ x ∧ Weak KK 64 0 s' (h69_0 (t0 y) (t1 y) (t4 y) (t5 y) (t13 y) (t14 y) (t15 y) (m y)))) (x : σ) (hx : I x) {s : St} (hw : Weak KK 64 0 s (h69_0 (t0 x) (t1 x) (t4 x) (t5 x) (t13 x) (t14 x) (t15 x) (m x))) : Tri Try.prog KK 64 0 (.loop c69_0) s (q69_0 R) :=
  Tri.weak hw (Tri.loops fol I (fun x => h69_0 (t0 x) (t1 x) (t4 x) (t5 x) (t13 x) (t14 x) (t15 x) (m x)) μ (fun x hx => (B69_0_eq (t0 x) (t1 x) (t4 x) (t5 x) (t13 x) (t14 x) (t15 x) (m x) R _).mpr (step x hx)) x hx)
noncomputable def B69_1 (t0 : AV) (t1 : AV) (t4 : Bool) (t5 : Int) (t26 : Int) (t27 : Int) (m : Mem) (R : AV → Mem → Prop) (N0 : St → Prop) : Prop :=
bif (decide (t27 < t26)) then (
opP (lenS t1) fun v9 =>
ex_i64 v9 fun z10 =>
Tri Try.prog KK 64 0 (.loop c69_1_0) ⟨[(0, t0), (1, t1), (4, (boolA t4)), (5, (intA t5)), (26, (intA t26)), (27, (intA t27)), (28, (boolA (decide (t27 < t26)))), (29, (intA t27)), (9, (intA t27)), (30, t1), (31, (intA z10)), (32, (intA (0)))], m, 200006⟩ (q69_1_0 R N0)) else (
callQ Try.prog KK.gl m 81 [t0] fun v35 =>
callQ Try.prog KK.gl m 81 [t1] fun v36 =>
callQ Try.prog KK.gl m 82 [v35, v36] fun v37 =>
exB v37 fun b38 =>
bif b38 then (
retL R m [some (boolA true), some (intA (0))]) else (
callQ Try.prog KK.gl m 82 [v36, v35] fun v39 =>
exB v39 fun b40 =>
retL R m [some (boolA b40), some (intA (0))]))
theorem B69_1_eq (t0 : AV) (t1 : AV) (t4 : Bool) (t5 : Int) (t26 : Int) (t27 : Int) (m : Mem) (R : AV → Mem → Prop) (N0 : St → Prop) : W Try.prog KK 64 0 c69_1 (h69_1 t0 t1 t4 t5 t26 t27 m) (qq69_1 R N0) = B69_1 t0 t1 t4 t5 t26 t27 m R N0 := by kernel_rfl
theorem L69_1 (R : AV → Mem → Prop) {σ : Type} (I : σ → Prop) (t0 : σ → AV) (t1 : σ → AV) (t4 : σ → Bool) (t5 : σ → Int) (t26 : σ → Int) (t27 : σ → Int) (m : σ → Mem) (μ : σ → Nat) (step : ∀ x, I x → B69_1 (t0 x) (t1 x) (t4 x) (t5 x) (t26 x) (t27 x) (m x) R (fun s' => ∃ y, I y ∧ μ y < μ x ∧ Weak KK 64 0 s' (h69_1 (t0 y) (t1 y) (t4 y) (t5 y) (t26 y) (t27 y) (m y)))) (x : σ) (hx : I x) {s : St} (hw : Weak KK 64 0 s (h69_1 (t0 x) (t1 x) (t4 x) (t5 x) (t26 x) (t27 x) (m x))) : Tri Try.prog KK 64 0 (.loop c69_1) s (q69_1 R) :=
  Tri.weak hw (Tri.loops fol I (fun x => h69_1 (t0 x) (t1 x) (t4 x) (t5 x) (t26 x) (t27 x) (m x)) μ (fun x hx => (B69_1_eq (t0 x) (t1 x) (t4 x) (t5 x) (t26 x) (t27 x) (m x) R _).mpr (step x hx)) x hx)
noncomputable def B69_1_0 (t0 : AV) (t1 : AV) (t4 : Bool) (t5 : Int) (t9 : Int) (t26 : Int) (t27 : Int) (t31 : Int) (t32 : Int) (m : Mem) (R : AV → Mem → Prop) (N0 : St → Prop) (N1 : St → Prop) : Prop :=
bif (decide (t32 < t31)) then (
opP (idxS 2 t0 (intA t9)) fun v11 =>
opP (ldA (mget m) 2 v11) fun v12 =>
exA2 v12 fun c13 c14 =>
ex_i64 c13 fun z15 =>
ex_i64 c14 fun z16 =>
callQ Try.prog KK.gl m 72 [t0, (intA t9)] fun v17 =>
exA2 v17 fun c18 c19 =>
ex_i64 c18 fun z20 =>
ex_i64 c19 fun z21 =>
opP (idxS 2 t1 (intA t32)) fun v22 =>
opP (ldA (mget m) 2 v22) fun v23 =>
exA2 v23 fun c24 c25 =>
ex_i64 c24 fun z26 =>
ex_i64 c25 fun z27 =>
callQ Try.prog KK.gl m 72 [t1, (intA t32)] fun v28 =>
exA2 v28 fun c29 c30 =>
ex_i64 c29 fun z31 =>
ex_i64 c30 fun z32 =>
callQ Try.prog KK.gl m 80 [(AV.agg [(intA z15), (intA z16)]), (AV.agg [(intA z20), (intA z21)]), (AV.agg [(intA z26), (intA z27)]), (AV.agg [(intA z31), (intA z32)])] fun v33 =>
exB v33 fun b34 =>
bif b34 then (
retL R m [some (boolA true), some (intA (0))]) else (
N1 ⟨[(0, t0), (1, t1), (4, (boolA t4)), (5, (intA t5)), (9, (intA t9)), (26, (intA t26)), (27, (intA t27)), (31, (intA t31)), (32, (intA (IntKind.wrap .i64 (t32 + (1))))), (33, (boolA (decide (t32 < t31)))), (34, (intA t32)), (10, (intA t32)), (35, t0), (36, (intA t9)), (37, v11), (38, (AV.agg [(intA z15), (intA z16)])), (39, t0), (40, (intA t9)), (41, (AV.agg [(intA z20), (intA z21)])), (42, t1), (43, (intA t32)), (44, v22), (45, (AV.agg [(intA z26), (intA z27)])), (46, t1), (47, (intA t32)), (48, (AV.agg [(intA z31), (intA z32)])), (49, (boolA b34)), (50, (intA (IntKind.wrap .i64 (t32 + (1)))))], m, 300020⟩)) else (
N0 ⟨[(0, t0), (1, t1), (4, (boolA t4)), (5, (intA t5)), (9, (intA t9)), (26, (intA t26)), (27, (intA (IntKind.wrap .i64 (t27 + (1))))), (31, (intA t31)), (32, (intA t32)), (33, (boolA (decide (t32 < t31)))), (51, (intA (IntKind.wrap .i64 (t27 + (1)))))], m, 300003⟩)
theorem B69_1_0_eq (t0 : AV) (t1 : AV) (t4 : Bool) (t5 : Int) (t9 : Int) (t26 : Int) (t27 : Int) (t31 : Int) (t32 : Int) (m : Mem) (R : AV → Mem → Prop) (N0 : St → Prop) (N1 : St → Prop) : W Try.prog KK 64 0 c69_1_0 (h69_1_0 t0 t1 t4 t5 t9 t26 t27 t31 t32 m) (qq69_1_0 R N0 N1) = B69_1_0 t0 t1 t4 t5 t9 t26 t27 t31 t32 m R N0 N1 := by kernel_rfl
theorem L69_1_0 (R : AV → Mem → Prop) (N0 : St → Prop) {σ : Type} (I : σ → Prop) (t0 : σ → AV) (t1 : σ → AV) (t4 : σ → Bool) (t5 : σ → Int) (t9 : σ → Int) (t26 : σ → Int) (t27 : σ → Int) (t31 : σ → Int) (t32 : σ → Int) (m : σ → Mem) (μ : σ → Nat) (step : ∀ x, I x → B69_1_0 (t0 x) (t1 x) (t4 x) (t5 x) (t9 x) (t26 x) (t27 x) (t31 x) (t32 x) (m x) R N0 (fun s' => ∃ y, I y ∧ μ y < μ x ∧ Weak KK 64 0 s' (h69_1_0 (t0 y) (t1 y) (t4 y) (t5 y) (t9 y) (t26 y) (t27 y) (t31 y) (t32 y) (m y)))) (x : σ) (hx : I x) {s : St} (hw : Weak KK 64 0 s (h69_1_0 (t0 x) (t1 x) (t4 x) (t5 x) (t9 x) (t26 x) (t27 x) (t31 x) (t32 x) (m x))) : Tri Try.prog KK 64 0 (.loop c69_1_0) s (q69_1_0 R N0) :=
  Tri.weak hw (Tri.loops fol I (fun x => h69_1_0 (t0 x) (t1 x) (t4 x) (t5 x) (t9 x) (t26 x) (t27 x) (t31 x) (t32 x) (m x)) μ (fun x hx => (B69_1_0_eq (t0 x) (t1 x) (t4 x) (t5 x) (t9 x) (t26 x) (t27 x) (t31 x) (t32 x) (m x) R N0 _).mpr (step x hx)) x hx)
noncomputable def F69 (a0 : AV) (a1 : AV) (R : AV → Mem → Prop) : Prop :=
opN (bsl 4 74 1 2 [AV.nils] [(0, a0), (1, a1)]) [] fun v0 m0 =>
opP (lenS v0) fun v1 =>
ex_i64 v1 fun z2 =>
Tri Try.prog KK 64 0 (.loop c69_0) ⟨[(0, a0), (1, a1), (4, (boolA false)), (5, (intA (0))), (11, a0), (12, a1), (13, v0), (14, (intA z2)), (15, (intA (0)))], m0, 7⟩ (q69_0 R)
theorem F69_own (a0 : AV) (a1 : AV) (R : AV → Mem → Prop) (h : F69 a0 a1 R) : Own Try.prog KK.gl 69 [a0, a1] R := own_of_F fol Try.func69 (code := c69) (by kernel_rfl) (by kernel_rfl) (by kernel_rfl) (X := F69 a0 a1 R) (by kernel_rfl) h
/- skyway/volume.Overlap -/
noncomputable def c49 : Code := ((Try.f49).body).getD .skip
noncomputable def q49 (R : AV → Mem → Prop) : AExit → St → Prop := retQ Try.prog Try.f49 R
noncomputable def c49_0 : Code := loopB c49 0
noncomputable def q49_0 (R : AV → Mem → Prop) : AExit → St → Prop := contW Try.prog KK 52 0 c49 0 (q49 R)
noncomputable def qq49_0 (R : AV → Mem → Prop) (N0 : St → Prop) : AExit → St → Prop := thenQ N0 (q49_0 R)
def h49_0 (t4 : Bool) (t5 : Int) (t13 : AV) (t14 : Int) (t15 : Int) (m : Mem) : St := ⟨[(2, (AV.ptr 0 0)), (3, (AV.ptr 1 0)), (4, (boolA t4)), (5, (intA t5)), (13, t13), (14, (intA t14)), (15, (intA t15))], m, 100000⟩
noncomputable def B49_0 (t4 : Bool) (t5 : Int) (t13 : AV) (t14 : Int) (t15 : Int) (m : Mem) (R : AV → Mem → Prop) (N0 : St → Prop) : Prop :=
bif (decide (t15 < t14)) then (
opP (idxS 3 t13 (intA t15)) fun v3 =>
opP (ldA (mget m) 3 v3) fun v4 =>
exA3 v4 fun c5 c6 c7 =>
ex_i64 c6 fun z8 =>
ex_i64 c7 fun z9 =>
chk (isCell c5) <| callQ Try.prog KK.gl ((100003, some ⟨[c5, (intA z8), (intA z9)], 76⟩) :: (100003, some ⟨[AV.nils, (intA (0)), (intA (0))], 76⟩) :: m) 46 [(AV.agg [c5, (intA z8), (intA z9)])] fun v10 =>
ex_i64 v10 fun z11 =>
bif (z11 != (0)) then (
retL R ((100003, some ⟨[c5, (intA z8), (intA z9)], 76⟩) :: (100003, some ⟨[AV.nils, (intA (0)), (intA (0))], 76⟩) :: m) [some (boolA false), some (intA z11)]) else (
N0 ⟨[(2, (AV.ptr 0 0)), (3, (AV.ptr 1 0)), (4, (boolA t4)), (5, (intA t5)), (13, t13), (14, (intA t14)), (15, (intA (IntKind.wrap .i64 (t15 + (1))))), (16, (boolA (decide (t15 < t14)))), (17, v3), (18, (AV.agg [c5, (intA z8), (intA z9)])), (7, (AV.ptr 100003 0)), (19, (AV.agg [c5, (intA z8), (intA z9)])), (20, (intA z11)), (8, (intA z11)), (21, (intA z11)), (22, (boolA (z11 != (0)))), (24, (intA (IntKind.wrap .i64 (t15 + (1)))))], ((100003, some ⟨[c5, (intA z8), (intA z9)], 76⟩) :: (100003, some ⟨[AV.nils, (intA (0)), (intA (0))], 76⟩) :: m), 100075⟩)) else (
opP (ldS (mget m) (AV.ptr 0 0)) fun v12 =>
opP (ldS (mget m) (AV.ptr 1 0)) fun v13 =>
callQ Try.prog KK.gl m 69 [v12, v13] fun v14 =>
exT2 v14 fun c15 c16 =>
exB c15 fun b17 =>
ex_i64 c16 fun z18 =>
bif (z18 == (0)) then (
bif b17 then (
opP (ldS (mget m) (AV.ptr 0 1)) fun v19 =>
ex_i64 v19 fun z20 =>
opP (ldS (mget m) (AV.ptr 1 1)) fun v21 =>
ex_i64 v21 fun z22 =>
opP (opA Try.prog (.call ⟨.builtin .max, #[.tmp 0, .tmp 1], #[3, 3]⟩) 3 [(intA z20), (intA z22)] (mget m) 100084) fun v23 =>
ex_i64 v23 fun z24 =>
opP (ldS (mget m) (AV.ptr 0 2)) fun v25 =>
ex_i64 v25 fun z26 =>
opP (ldS (mget m) (AV.ptr 1 2)) fun v27 =>
ex_i64 v27 fun z28 =>
opP (opA Try.prog (.call ⟨.builtin .min, #[.tmp 0, .tmp 1], #[3, 3]⟩) 3 [(intA z26), (intA z28)] (mget m) 100089) fun v29 =>
ex_i64 v29 fun z30 =>
retL R m [some (boolA (decide (z24 < z30))), some (intA z18)]) else (
retL R m [some (boolA false), some (intA z18)])) else (
retL R m [some (boolA false), some (intA z18)]))
theorem B49_0_eq (t4 : Bool) (t5 : Int) (t13 : AV) (t14 : Int) (t15 : Int) (m : Mem) (R : AV → Mem → Prop) (N0 : St → Prop) : W Try.prog KK 52 0 c49_0 (h49_0 t4 t5 t13 t14 t15 m) (qq49_0 R N0) = B49_0 t4 t5 t13 t14 t15 m R N0 := by kernel_rfl
theorem L49_0 (R : AV → Mem → Prop) {σ : Type} (I : σ → Prop) (t4 : σ → Bool) (t5 : σ → Int) (t13 : σ → AV) (t14 : σ → Int) (t15 : σ → Int) (m : σ → Mem) (μ : σ → Nat) (step : ∀ x, I x → B49_0 (t4 x) (t5 x) (t13 x) (t14 x) (t15 x) (m x) R (fun s' => ∃ y, I y ∧ μ y < μ x ∧ Weak KK 52 0 s' (h49_0 (t4 y) (t5 y) (t13 y) (t14 y) (t15 y) (m y)))) (x : σ) (hx : I x) {s : St} (hw : Weak KK 52 0 s (h49_0 (t4 x) (t5 x) (t13 x) (t14 x) (t15 x) (m x))) : Tri Try.prog KK 52 0 (.loop c49_0) s (q49_0 R) :=
  Tri.weak hw (Tri.loops fol I (fun x => h49_0 (t4 x) (t5 x) (t13 x) (t14 x) (t15 x) (m x)) μ (fun x hx => (B49_0_eq (t4 x) (t5 x) (t13 x) (t14 x) (t15 x) (m x) R _).mpr (step x hx)) x hx)
noncomputable def F49 (a0_0 : AV) (a0_1 : Int) (a0_2 : Int) (a1_0 : AV) (a1_1 : Int) (a1_2 : Int) (R : AV → Mem → Prop) : Prop :=
chk (isCell a0_0) <| chk (isCell a1_0) <| opN (bsl 6 76 3 2 [AV.nils, (intA (0)), (intA (0))] [(0, (AV.agg [a0_0, (intA a0_1), (intA a0_2)])), (1, (AV.agg [a1_0, (intA a1_1), (intA a1_2)]))]) ((1, some ⟨[a1_0, (intA a1_1), (intA a1_2)], 76⟩) :: (0, some ⟨[a0_0, (intA a0_1), (intA a0_2)], 76⟩) :: []) fun v0 m0 =>
opP (lenS v0) fun v1 =>
ex_i64 v1 fun z2 =>
Tri Try.prog KK 52 0 (.loop c49_0) ⟨[(0, (AV.agg [a0_0, (intA a0_1), (intA a0_2)])), (1, (AV.agg [a1_0, (intA a1_1), (intA a1_2)])), (2, (AV.ptr 0 0)), (3, (AV.ptr 1 0)), (4, (boolA false)), (5, (intA (0))), (11, (AV.agg [a0_0, (intA a0_1), (intA a0_2)])), (12, (AV.agg [a1_0, (intA a1_1), (intA a1_2)])), (13, v0), (14, (intA z2)), (15, (intA (0)))], m0, 9⟩ (q49_0 R)
theorem F49_own (a0_0 : AV) (a0_1 : Int) (a0_2 : Int) (a1_0 : AV) (a1_1 : Int) (a1_2 : Int) (R : AV → Mem → Prop) (h : F49 a0_0 a0_1 a0_2 a1_0 a1_1 a1_2 R) : Own Try.prog KK.gl 49 [(AV.agg [a0_0, (intA a0_1), (intA a0_2)]), (AV.agg [a1_0, (intA a1_1), (intA a1_2)])] R := own_of_F fol Try.func49 (code := c49) (by kernel_rfl) (by kernel_rfl) (by kernel_rfl) (X := F49 a0_0 a0_1 a0_2 a1_0 a1_1 a1_2 R) (by kernel_rfl) h
/- skyway/sector.Check -/
noncomputable def c24 : Code := ((Try.f24).body).getD .skip
noncomputable def q24 (R : AV → Mem → Prop) : AExit → St → Prop := retQ Try.prog Try.f24 R
noncomputable def c24_0 : Code := loopB c24 0
noncomputable def q24_0 (R : AV → Mem → Prop) : AExit → St → Prop := contW Try.prog KK 87 0 c24 0 (q24 R)
noncomputable def qq24_0 (R : AV → Mem → Prop) (N0 : St → Prop) : AExit → St → Prop := thenQ N0 (q24_0 R)
def h24_0 (t0 : AV) (t2 : Int) (t3 : AV) (t18 : AV) (t19 : Int) (t20 : Int) (m : Mem) : St := ⟨[(0, t0), (2, (intA t2)), (3, t3), (18, t18), (19, (intA t19)), (20, (intA t20))], m, 100000⟩
noncomputable def c24_0_0 : Code := loopB c24_0 0
noncomputable def q24_0_0 (R : AV → Mem → Prop) (N0 : St → Prop) : AExit → St → Prop := contW Try.prog KK 87 0 c24_0 0 (qq24_0 R N0)
noncomputable def qq24_0_0 (R : AV → Mem → Prop) (N0 : St → Prop) (N1 : St → Prop) : AExit → St → Prop := thenQ N1 (q24_0_0 R N0)
def h24_0_0 (t0 : AV) (t2 : Int) (t3 : AV) (t4 : Int) (t18 : AV) (t19 : Int) (t20 : Int) (t41 : AV) (t42 : Int) (t43 : Int) (b100004_0 : ByteArray) (b100004_1 : AV) (m : Mem) : St := ⟨[(0, t0), (2, (intA t2)), (3, t3), (4, (intA t4)), (5, (AV.ptr 100004 0)), (18, t18), (19, (intA t19)), (20, (intA t20)), (41, t41), (42, (intA t42)), (43, (intA t43))], ((100004, some ⟨[(AV.sc (.string b100004_0)), b100004_1], 51⟩) :: m), 200000⟩
noncomputable def c24_1 : Code := loopB c24 1
noncomputable def q24_1 (R : AV → Mem → Prop) : AExit → St → Prop := contW Try.prog KK 87 0 c24 1 (q24 R)
noncomputable def qq24_1 (R : AV → Mem → Prop) (N0 : St → Prop) : AExit → St → Prop := thenQ N0 (q24_1 R)
def h24_1 (t2 : Int) (t3 : AV) (t63 : AV) (t64 : Int) (t65 : Int) (m : Mem) : St := ⟨[(2, (intA t2)), (3, t3), (63, t63), (64, (intA t64)), (65, (intA t65))], m, 200000⟩
noncomputable def c24_1_0 : Code := loopB c24_1 0
noncomputable def q24_1_0 (R : AV → Mem → Prop) (N0 : St → Prop) : AExit → St → Prop := contW Try.prog KK 87 0 c24_1 0 (qq24_1 R N0)
noncomputable def qq24_1_0 (R : AV → Mem → Prop) (N0 : St → Prop) (N1 : St → Prop) : AExit → St → Prop := thenQ N1 (q24_1_0 R N0)
def h24_1_0 (t2 : Int) (t3 : AV) (t63 : AV) (t64 : Int) (t65 : Int) (t72 : AV) (t73 : Int) (t74 : Int) (b200004_0 : AV) (b200004_1 : Int) (b200004_2 : Int) (m : Mem) : St := ⟨[(2, (intA t2)), (3, t3), (10, (AV.ptr 200004 0)), (63, t63), (64, (intA t64)), (65, (intA t65)), (72, t72), (73, (intA t73)), (74, (intA t74))], ((200004, some ⟨[b200004_0, (intA b200004_1), (intA b200004_2)], 76⟩) :: m), 300000⟩
noncomputable def B24_0 (t0 : AV) (t2 : Int) (t3 : AV) (t18 : AV) (t19 : Int) (t20 : Int) (m : Mem) (R : AV → Mem → Prop) (N0 : St → Prop) : Prop :=
bif (decide (t20 < t19)) then (
opP (idxS 2 t18 (intA t20)) fun v4 =>
opP (ldA (mget m) 2 v4) fun v5 =>
exA2 v5 fun c6 c7 =>
exStr c6 fun s8 =>
chk (isCell c7) <| callQ Try.prog KK.gl ((100004, some ⟨[(AV.sc (.string s8)), c7], 51⟩) :: (100004, some ⟨[(AV.sc (.string ⟨#[]⟩)), AV.nils], 51⟩) :: m) 26 [(AV.sc (.string s8))] fun v9 =>
exB v9 fun b10 =>
bif (!b10) then (
retL R ((100004, some ⟨[(AV.sc (.string s8)), c7], 51⟩) :: (100004, some ⟨[(AV.sc (.string ⟨#[]⟩)), AV.nils], 51⟩) :: m) [some (intA (3))]) else (
opP (lenS c7) fun v11 =>
ex_i64 v11 fun z12 =>
bif (z12 == (0)) then (
retL R ((100004, some ⟨[(AV.sc (.string s8)), c7], 51⟩) :: (100004, some ⟨[(AV.sc (.string ⟨#[]⟩)), AV.nils], 51⟩) :: m) [some (intA (8))]) else (
opP (lenS c7) fun v13 =>
ex_i64 v13 fun z14 =>
bif (decide (z14 > (4))) then (
retL R ((100004, some ⟨[(AV.sc (.string s8)), c7], 51⟩) :: (100004, some ⟨[(AV.sc (.string ⟨#[]⟩)), AV.nils], 51⟩) :: m) [some (intA (2))]) else (
opP (lenS c7) fun v15 =>
ex_i64 v15 fun z16 =>
Tri Try.prog KK 87 0 (.loop c24_0_0) ⟨[(0, t0), (2, (intA t2)), (3, t3), (18, t18), (19, (intA t19)), (20, (intA t20)), (21, (boolA (decide (t20 < t19)))), (22, (intA t20)), (23, v4), (24, (AV.agg [(AV.sc (.string s8)), c7])), (5, (AV.ptr 100004 0)), (4, (intA t20)), (26, (AV.ptr 100004 0)), (27, (AV.sc (.string s8))), (28, (boolA b10)), (29, (boolA (!b10))), (25, (boolA (!b10))), (31, (AV.ptr 100004 1)), (32, c7), (33, (intA z12)), (34, (boolA (z12 == (0)))), (30, (boolA (z12 == (0)))), (36, (AV.ptr 100004 1)), (37, c7), (38, (intA z14)), (39, (boolA (decide (z14 > (4))))), (35, (boolA (decide (z14 > (4))))), (40, (AV.ptr 100004 1)), (41, c7), (42, (intA z16)), (43, (intA (0)))], ((100004, some ⟨[(AV.sc (.string s8)), c7], 51⟩) :: (100004, some ⟨[(AV.sc (.string ⟨#[]⟩)), AV.nils], 51⟩) :: m), 100089⟩ (q24_0_0 R N0))))) else (
opP (lenS t3) fun v30 =>
ex_i64 v30 fun z31 =>
Tri Try.prog KK 87 0 (.loop c24_1) ⟨[(0, t0), (2, (intA t2)), (3, t3), (18, t18), (19, (intA t19)), (20, (intA t20)), (21, (boolA (decide (t20 < t19)))), (63, t3), (64, (intA z31)), (65, (intA (0)))], m, 100004⟩ (q24_1 R))
theorem B24_0_eq (t0 : AV) (t2 : Int) (t3 : AV) (t18 : AV) (t19 : Int) (t20 : Int) (m : Mem) (R : AV → Mem → Prop) (N0 : St → Prop) : W Try.prog KK 87 0 c24_0 (h24_0 t0 t2 t3 t18 t19 t20 m) (qq24_0 R N0) = B24_0 t0 t2 t3 t18 t19 t20 m R N0 := by kernel_rfl
theorem L24_0 (R : AV → Mem → Prop) {σ : Type} (I : σ → Prop) (t0 : σ → AV) (t2 : σ → Int) (t3 : σ → AV) (t18 : σ → AV) (t19 : σ → Int) (t20 : σ → Int) (m : σ → Mem) (μ : σ → Nat) (step : ∀ x, I x → B24_0 (t0 x) (t2 x) (t3 x) (t18 x) (t19 x) (t20 x) (m x) R (fun s' => ∃ y, I y ∧ μ y < μ x ∧ Weak KK 87 0 s' (h24_0 (t0 y) (t2 y) (t3 y) (t18 y) (t19 y) (t20 y) (m y)))) (x : σ) (hx : I x) {s : St} (hw : Weak KK 87 0 s (h24_0 (t0 x) (t2 x) (t3 x) (t18 x) (t19 x) (t20 x) (m x))) : Tri Try.prog KK 87 0 (.loop c24_0) s (q24_0 R) :=
  Tri.weak hw (Tri.loops fol I (fun x => h24_0 (t0 x) (t2 x) (t3 x) (t18 x) (t19 x) (t20 x) (m x)) μ (fun x hx => (B24_0_eq (t0 x) (t2 x) (t3 x) (t18 x) (t19 x) (t20 x) (m x) R _).mpr (step x hx)) x hx)
noncomputable def B24_0_0 (t0 : AV) (t2 : Int) (t3 : AV) (t4 : Int) (t18 : AV) (t19 : Int) (t20 : Int) (t41 : AV) (t42 : Int) (t43 : Int) (b100004_0 : ByteArray) (b100004_1 : AV) (m : Mem) (R : AV → Mem → Prop) (N0 : St → Prop) (N1 : St → Prop) : Prop :=
bif (decide (t43 < t42)) then (
opP (idxS 3 t41 (intA t43)) fun v17 =>
opP (ldA (mget ((100004, some ⟨[(AV.sc (.string b100004_0)), b100004_1], 51⟩) :: m)) 3 v17) fun v18 =>
exA3 v18 fun c19 c20 c21 =>
ex_i64 c20 fun z22 =>
ex_i64 c21 fun z23 =>
chk (isCell c19) <| callQ Try.prog KK.gl ((200003, some ⟨[c19, (intA z22), (intA z23)], 76⟩) :: (200003, some ⟨[AV.nils, (intA (0)), (intA (0))], 76⟩) :: (100004, some ⟨[(AV.sc (.string b100004_0)), b100004_1], 51⟩) :: m) 46 [(AV.agg [c19, (intA z22), (intA z23)])] fun v24 =>
ex_i64 v24 fun z25 =>
bif (z25 != (0)) then (
retL R ((200003, some ⟨[c19, (intA z22), (intA z23)], 76⟩) :: (200003, some ⟨[AV.nils, (intA (0)), (intA (0))], 76⟩) :: (100004, some ⟨[(AV.sc (.string b100004_0)), b100004_1], 51⟩) :: m) [some (intA z25)]) else (
N1 ⟨[(0, t0), (2, (intA t2)), (3, t3), (4, (intA t4)), (5, (AV.ptr 100004 0)), (18, t18), (19, (intA t19)), (20, (intA t20)), (41, t41), (42, (intA t42)), (43, (intA (IntKind.wrap .i64 (t43 + (1))))), (44, (boolA (decide (t43 < t42)))), (45, v17), (46, (AV.agg [c19, (intA z22), (intA z23)])), (7, (AV.ptr 200003 0)), (47, (AV.agg [c19, (intA z22), (intA z23)])), (48, (intA z25)), (8, (intA z25)), (49, (intA z25)), (50, (boolA (z25 != (0)))), (52, (intA (IntKind.wrap .i64 (t43 + (1)))))], ((200003, some ⟨[c19, (intA z22), (intA z23)], 76⟩) :: (200003, some ⟨[AV.nils, (intA (0)), (intA (0))], 76⟩) :: (100004, some ⟨[(AV.sc (.string b100004_0)), b100004_1], 51⟩) :: m), 200075⟩)) else (
opP (opA Try.prog (.slice 22 (.tmp 0) none (some (.tmp 1)) none) 22 [t0, (intA t4)] (mget ((100004, some ⟨[(AV.sc (.string b100004_0)), b100004_1], 51⟩) :: m)) 200003) fun v26 =>
callQ Try.prog KK.gl ((100004, some ⟨[(AV.sc (.string b100004_0)), b100004_1], 51⟩) :: m) 47 [v26, (AV.fn 48 [(AV.ptr 100004 0)])] fun v27 =>
exB v27 fun b28 =>
bif b28 then (
retL R ((100004, some ⟨[(AV.sc (.string b100004_0)), b100004_1], 51⟩) :: m) [some (intA (7))]) else (
opN (app (mget ((100004, some ⟨[(AV.sc (.string b100004_0)), b100004_1], 51⟩) :: m)) 76 3 40 [AV.nils, (intA (0)), (intA (0))] 200072 t3 b100004_1) ((100004, some ⟨[(AV.sc (.string b100004_0)), b100004_1], 51⟩) :: m) fun v29 m29 =>
N0 ⟨[(0, t0), (2, (intA t2)), (3, v29), (4, (intA t4)), (5, (AV.ptr 100004 0)), (18, t18), (19, (intA t19)), (20, (intA (IntKind.wrap .i64 (t20 + (1))))), (41, t41), (42, (intA t42)), (43, (intA t43)), (44, (boolA (decide (t43 < t42)))), (53, t0), (54, (intA t4)), (55, v26), (56, (AV.fn 48 [(AV.ptr 100004 0)])), (57, (boolA b28)), (58, t3), (59, (AV.ptr 100004 1)), (60, b100004_1), (61, v29), (62, (intA (IntKind.wrap .i64 (t20 + (1)))))], m29, 200076⟩))
theorem B24_0_0_eq (t0 : AV) (t2 : Int) (t3 : AV) (t4 : Int) (t18 : AV) (t19 : Int) (t20 : Int) (t41 : AV) (t42 : Int) (t43 : Int) (b100004_0 : ByteArray) (b100004_1 : AV) (m : Mem) (R : AV → Mem → Prop) (N0 : St → Prop) (N1 : St → Prop) : W Try.prog KK 87 0 c24_0_0 (h24_0_0 t0 t2 t3 t4 t18 t19 t20 t41 t42 t43 b100004_0 b100004_1 m) (qq24_0_0 R N0 N1) = B24_0_0 t0 t2 t3 t4 t18 t19 t20 t41 t42 t43 b100004_0 b100004_1 m R N0 N1 := by kernel_rfl
theorem L24_0_0 (R : AV → Mem → Prop) (N0 : St → Prop) {σ : Type} (I : σ → Prop) (t0 : σ → AV) (t2 : σ → Int) (t3 : σ → AV) (t4 : σ → Int) (t18 : σ → AV) (t19 : σ → Int) (t20 : σ → Int) (t41 : σ → AV) (t42 : σ → Int) (t43 : σ → Int) (b100004_0 : σ → ByteArray) (b100004_1 : σ → AV) (m : σ → Mem) (μ : σ → Nat) (step : ∀ x, I x → B24_0_0 (t0 x) (t2 x) (t3 x) (t4 x) (t18 x) (t19 x) (t20 x) (t41 x) (t42 x) (t43 x) (b100004_0 x) (b100004_1 x) (m x) R N0 (fun s' => ∃ y, I y ∧ μ y < μ x ∧ Weak KK 87 0 s' (h24_0_0 (t0 y) (t2 y) (t3 y) (t4 y) (t18 y) (t19 y) (t20 y) (t41 y) (t42 y) (t43 y) (b100004_0 y) (b100004_1 y) (m y)))) (x : σ) (hx : I x) {s : St} (hw : Weak KK 87 0 s (h24_0_0 (t0 x) (t2 x) (t3 x) (t4 x) (t18 x) (t19 x) (t20 x) (t41 x) (t42 x) (t43 x) (b100004_0 x) (b100004_1 x) (m x))) : Tri Try.prog KK 87 0 (.loop c24_0_0) s (q24_0_0 R N0) :=
  Tri.weak hw (Tri.loops fol I (fun x => h24_0_0 (t0 x) (t2 x) (t3 x) (t4 x) (t18 x) (t19 x) (t20 x) (t41 x) (t42 x) (t43 x) (b100004_0 x) (b100004_1 x) (m x)) μ (fun x hx => (B24_0_0_eq (t0 x) (t2 x) (t3 x) (t4 x) (t18 x) (t19 x) (t20 x) (t41 x) (t42 x) (t43 x) (b100004_0 x) (b100004_1 x) (m x) R N0 _).mpr (step x hx)) x hx)
noncomputable def B24_1 (t2 : Int) (t3 : AV) (t63 : AV) (t64 : Int) (t65 : Int) (m : Mem) (R : AV → Mem → Prop) (N0 : St → Prop) : Prop :=
bif (decide (t65 < t64)) then (
opP (idxS 3 t63 (intA t65)) fun v32 =>
opP (ldA (mget m) 3 v32) fun v33 =>
exA3 v33 fun c34 c35 c36 =>
ex_i64 c35 fun z37 =>
ex_i64 c36 fun z38 =>
chk (isCell c34) <| opP (opA Try.prog (.slice 49 (.tmp 0) none (some (.tmp 1)) none) 49 [t3, (intA t65)] (mget ((200004, some ⟨[c34, (intA z37), (intA z38)], 76⟩) :: (200004, some ⟨[AV.nils, (intA (0)), (intA (0))], 76⟩) :: m)) 200009) fun v39 =>
opP (lenS v39) fun v40 =>
ex_i64 v40 fun z41 =>
Tri Try.prog KK 87 0 (.loop c24_1_0) ⟨[(2, (intA t2)), (3, t3), (63, t63), (64, (intA t64)), (65, (intA t65)), (66, (boolA (decide (t65 < t64)))), (67, (intA t65)), (68, v32), (69, (AV.agg [c34, (intA z37), (intA z38)])), (10, (AV.ptr 200004 0)), (9, (intA t65)), (70, t3), (71, (intA t65)), (72, v39), (73, (intA z41)), (74, (intA (0)))], ((200004, some ⟨[c34, (intA z37), (intA z38)], 76⟩) :: (200004, some ⟨[AV.nils, (intA (0)), (intA (0))], 76⟩) :: m), 200012⟩ (q24_1_0 R N0)) else (
retL R m [some (intA (0))])
theorem B24_1_eq (t2 : Int) (t3 : AV) (t63 : AV) (t64 : Int) (t65 : Int) (m : Mem) (R : AV → Mem → Prop) (N0 : St → Prop) : W Try.prog KK 87 0 c24_1 (h24_1 t2 t3 t63 t64 t65 m) (qq24_1 R N0) = B24_1 t2 t3 t63 t64 t65 m R N0 := by kernel_rfl
theorem L24_1 (R : AV → Mem → Prop) {σ : Type} (I : σ → Prop) (t2 : σ → Int) (t3 : σ → AV) (t63 : σ → AV) (t64 : σ → Int) (t65 : σ → Int) (m : σ → Mem) (μ : σ → Nat) (step : ∀ x, I x → B24_1 (t2 x) (t3 x) (t63 x) (t64 x) (t65 x) (m x) R (fun s' => ∃ y, I y ∧ μ y < μ x ∧ Weak KK 87 0 s' (h24_1 (t2 y) (t3 y) (t63 y) (t64 y) (t65 y) (m y)))) (x : σ) (hx : I x) {s : St} (hw : Weak KK 87 0 s (h24_1 (t2 x) (t3 x) (t63 x) (t64 x) (t65 x) (m x))) : Tri Try.prog KK 87 0 (.loop c24_1) s (q24_1 R) :=
  Tri.weak hw (Tri.loops fol I (fun x => h24_1 (t2 x) (t3 x) (t63 x) (t64 x) (t65 x) (m x)) μ (fun x hx => (B24_1_eq (t2 x) (t3 x) (t63 x) (t64 x) (t65 x) (m x) R _).mpr (step x hx)) x hx)
noncomputable def B24_1_0 (t2 : Int) (t3 : AV) (t63 : AV) (t64 : Int) (t65 : Int) (t72 : AV) (t73 : Int) (t74 : Int) (b200004_0 : AV) (b200004_1 : Int) (b200004_2 : Int) (m : Mem) (R : AV → Mem → Prop) (N0 : St → Prop) (N1 : St → Prop) : Prop :=
bif (decide (t74 < t73)) then (
opP (idxS 3 t72 (intA t74)) fun v42 =>
opP (ldA (mget ((200004, some ⟨[b200004_0, (intA b200004_1), (intA b200004_2)], 76⟩) :: m)) 3 v42) fun v43 =>
exA3 v43 fun c44 c45 c46 =>
ex_i64 c45 fun z47 =>
ex_i64 c46 fun z48 =>
chk (isCell c44) <| callQ Try.prog KK.gl ((300003, some ⟨[c44, (intA z47), (intA z48)], 76⟩) :: (300003, some ⟨[AV.nils, (intA (0)), (intA (0))], 76⟩) :: (200004, some ⟨[b200004_0, (intA b200004_1), (intA b200004_2)], 76⟩) :: m) 49 [(AV.agg [b200004_0, (intA b200004_1), (intA b200004_2)]), (AV.agg [c44, (intA z47), (intA z48)])] fun v49 =>
exT2 v49 fun c50 c51 =>
exB c50 fun b52 =>
ex_i64 c51 fun z53 =>
bif b52 then (
retL R ((300003, some ⟨[c44, (intA z47), (intA z48)], 76⟩) :: (300003, some ⟨[AV.nils, (intA (0)), (intA (0))], 76⟩) :: (200004, some ⟨[b200004_0, (intA b200004_1), (intA b200004_2)], 76⟩) :: m) [some (intA (19))]) else (
N1 ⟨[(2, (intA t2)), (3, t3), (10, (AV.ptr 200004 0)), (63, t63), (64, (intA t64)), (65, (intA t65)), (72, t72), (73, (intA t73)), (74, (intA (IntKind.wrap .i64 (t74 + (1))))), (75, (boolA (decide (t74 < t73)))), (76, v42), (77, (AV.agg [c44, (intA z47), (intA z48)])), (12, (AV.ptr 300003 0)), (79, (AV.agg [b200004_0, (intA b200004_1), (intA b200004_2)])), (80, (AV.agg [c44, (intA z47), (intA z48)])), (81, (AV.tup [(boolA b52), (intA z53)])), (78, (AV.tup [(boolA b52), (intA z53)])), (82, (boolA b52)), (83, (intA z53)), (13, (boolA b52)), (14, (intA z53)), (84, (boolA b52)), (85, (intA (IntKind.wrap .i64 (t74 + (1)))))], ((300003, some ⟨[c44, (intA z47), (intA z48)], 76⟩) :: (300003, some ⟨[AV.nils, (intA (0)), (intA (0))], 76⟩) :: (200004, some ⟨[b200004_0, (intA b200004_1), (intA b200004_2)], 76⟩) :: m), 300079⟩)) else (
N0 ⟨[(2, (intA t2)), (3, t3), (10, (AV.ptr 200004 0)), (63, t63), (64, (intA t64)), (65, (intA (IntKind.wrap .i64 (t65 + (1))))), (72, t72), (73, (intA t73)), (74, (intA t74)), (75, (boolA (decide (t74 < t73)))), (86, (intA (IntKind.wrap .i64 (t65 + (1)))))], ((200004, some ⟨[b200004_0, (intA b200004_1), (intA b200004_2)], 76⟩) :: m), 300003⟩)
theorem B24_1_0_eq (t2 : Int) (t3 : AV) (t63 : AV) (t64 : Int) (t65 : Int) (t72 : AV) (t73 : Int) (t74 : Int) (b200004_0 : AV) (b200004_1 : Int) (b200004_2 : Int) (m : Mem) (R : AV → Mem → Prop) (N0 : St → Prop) (N1 : St → Prop) : W Try.prog KK 87 0 c24_1_0 (h24_1_0 t2 t3 t63 t64 t65 t72 t73 t74 b200004_0 b200004_1 b200004_2 m) (qq24_1_0 R N0 N1) = B24_1_0 t2 t3 t63 t64 t65 t72 t73 t74 b200004_0 b200004_1 b200004_2 m R N0 N1 := by kernel_rfl
theorem L24_1_0 (R : AV → Mem → Prop) (N0 : St → Prop) {σ : Type} (I : σ → Prop) (t2 : σ → Int) (t3 : σ → AV) (t63 : σ → AV) (t64 : σ → Int) (t65 : σ → Int) (t72 : σ → AV) (t73 : σ → Int) (t74 : σ → Int) (b200004_0 : σ → AV) (b200004_1 : σ → Int) (b200004_2 : σ → Int) (m : σ → Mem) (μ : σ → Nat) (step : ∀ x, I x → B24_1_0 (t2 x) (t3 x) (t63 x) (t64 x) (t65 x) (t72 x) (t73 x) (t74 x) (b200004_0 x) (b200004_1 x) (b200004_2 x) (m x) R N0 (fun s' => ∃ y, I y ∧ μ y < μ x ∧ Weak KK 87 0 s' (h24_1_0 (t2 y) (t3 y) (t63 y) (t64 y) (t65 y) (t72 y) (t73 y) (t74 y) (b200004_0 y) (b200004_1 y) (b200004_2 y) (m y)))) (x : σ) (hx : I x) {s : St} (hw : Weak KK 87 0 s (h24_1_0 (t2 x) (t3 x) (t63 x) (t64 x) (t65 x) (t72 x) (t73 x) (t74 x) (b200004_0 x) (b200004_1 x) (b200004_2 x) (m x))) : Tri Try.prog KK 87 0 (.loop c24_1_0) s (q24_1_0 R N0) :=
  Tri.weak hw (Tri.loops fol I (fun x => h24_1_0 (t2 x) (t3 x) (t63 x) (t64 x) (t65 x) (t72 x) (t73 x) (t74 x) (b200004_0 x) (b200004_1 x) (b200004_2 x) (m x)) μ (fun x hx => (B24_1_0_eq (t2 x) (t3 x) (t63 x) (t64 x) (t65 x) (t72 x) (t73 x) (t74 x) (b200004_0 x) (b200004_1 x) (b200004_2 x) (m x) R N0 _).mpr (step x hx)) x hx)
noncomputable def F24 (a0 : AV) (R : AV → Mem → Prop) : Prop :=
opP (lenS a0) fun v0 =>
ex_i64 v0 fun z1 =>
bif (decide (z1 > (12))) then (
retL R [] [some (intA (2))]) else (
opP (lenS a0) fun v2 =>
ex_i64 v2 fun z3 =>
Tri Try.prog KK 87 0 (.loop c24_0) ⟨[(0, a0), (2, (intA (0))), (15, a0), (16, (intA z1)), (17, (boolA (decide (z1 > (12))))), (3, AV.nils), (18, a0), (19, (intA z3)), (20, (intA (0)))], [], 8⟩ (q24_0 R))
theorem F24_own (a0 : AV) (R : AV → Mem → Prop) (h : F24 a0 R) : Own Try.prog KK.gl 24 [a0] R := own_of_F fol Try.func24 (code := c24) (by kernel_rfl) (by kernel_rfl) (by kernel_rfl) (X := F24 a0 R) (by kernel_rfl) h
/- skyway/sector.Path -/
noncomputable def c11 : Code := ((Try.f11).body).getD .skip
noncomputable def q11 (R : AV → Mem → Prop) : AExit → St → Prop := retQ Try.prog Try.f11 R
noncomputable def F11 (a0 : AV) (a1 : AV) (R : AV → Mem → Prop) : Prop :=
callQ Try.prog KK.gl [] 24 [a0] fun v0 =>
ex_i64 v0 fun z1 =>
bif (z1 != (0)) then (
retL R [] [some AV.nils, some (intA z1)]) else (
callQ Try.prog KK.gl [] 28 [a1] fun v2 =>
ex_i64 v2 fun z3 =>
bif (z3 != (0)) then (
retL R [] [some AV.nils, some (intA z3)]) else (
opP (lenS a1) fun v4 =>
ex_i64 v4 fun z5 =>
opP (idxS 6 a1 (intA (IntKind.wrap .i64 (z5 - (1))))) fun v6 =>
opP (fldO 0 v6) fun v7 =>
opP (fldO 0 v7) fun v8 =>
opP (ldS (mget []) v8) fun v9 =>
ex_i64 v9 fun z10 =>
opP (idxS 6 a1 (intA (0))) fun v11 =>
opP (fldO 0 v11) fun v12 =>
opP (fldO 0 v12) fun v13 =>
opP (ldS (mget []) v13) fun v14 =>
ex_i64 v14 fun z15 =>
bif (decide ((IntKind.wrap .i64 (z10 - z15)) > (20000))) then (
retL R [] [some AV.nils, some (intA (2))]) else (
callQ Try.prog KK.gl [] 29 [a0, a1] fun v16 =>
retL R [] [some v16, some (intA (0))])))
theorem F11_own (a0 : AV) (a1 : AV) (R : AV → Mem → Prop) (h : F11 a0 a1 R) : Own Try.prog KK.gl 11 [a0, a1] R := own_of_F fol Try.func11 (code := c11) (by kernel_rfl) (by kernel_rfl) (by kernel_rfl) (X := F11 a0 a1 R) (by kernel_rfl) h
/- skyway/load.check -/
noncomputable def c40 : Code := ((Try.f40).body).getD .skip
noncomputable def q40 (R : AV → Mem → Prop) : AExit → St → Prop := retQ Try.prog Try.f40 R
noncomputable def c40_0 : Code := loopB c40 0
noncomputable def q40_0 (R : AV → Mem → Prop) : AExit → St → Prop := contW Try.prog KK 29 0 c40 0 (q40 R)
noncomputable def qq40_0 (R : AV → Mem → Prop) (N0 : St → Prop) : AExit → St → Prop := thenQ N0 (q40_0 R)
def h40_0 (t4 : Int) (t17 : AV) (t18 : Int) (t19 : Int) (m : Mem) : St := ⟨[(4, (intA t4)), (17, t17), (18, (intA t18)), (19, (intA t19))], m, 100000⟩
noncomputable def B40_0 (t4 : Int) (t17 : AV) (t18 : Int) (t19 : Int) (m : Mem) (R : AV → Mem → Prop) (N0 : St → Prop) : Prop :=
bif (decide (t19 < t18)) then (
opP (idxS 1 t17 (intA t19)) fun v6 =>
opP (ldS (mget m) v6) fun v7 =>
callQ Try.prog KK.gl m 28 [v7] fun v8 =>
ex_i64 v8 fun z9 =>
bif (z9 != (0)) then (
retL R m [some (intA z9)]) else (
N0 ⟨[(4, (intA t4)), (17, t17), (18, (intA t18)), (19, (intA (IntKind.wrap .i64 (t19 + (1))))), (20, (boolA (decide (t19 < t18)))), (21, v6), (22, v7), (7, v7), (23, v7), (24, (intA z9)), (8, (intA z9)), (25, (intA z9)), (26, (boolA (z9 != (0)))), (28, (intA (IntKind.wrap .i64 (t19 + (1)))))], m, 100074⟩)) else (
retL R m [some (intA (0))])
theorem B40_0_eq (t4 : Int) (t17 : AV) (t18 : Int) (t19 : Int) (m : Mem) (R : AV → Mem → Prop) (N0 : St → Prop) : W Try.prog KK 29 0 c40_0 (h40_0 t4 t17 t18 t19 m) (qq40_0 R N0) = B40_0 t4 t17 t18 t19 m R N0 := by kernel_rfl
theorem L40_0 (R : AV → Mem → Prop) {σ : Type} (I : σ → Prop) (t4 : σ → Int) (t17 : σ → AV) (t18 : σ → Int) (t19 : σ → Int) (m : σ → Mem) (μ : σ → Nat) (step : ∀ x, I x → B40_0 (t4 x) (t17 x) (t18 x) (t19 x) (m x) R (fun s' => ∃ y, I y ∧ μ y < μ x ∧ Weak KK 29 0 s' (h40_0 (t4 y) (t17 y) (t18 y) (t19 y) (m y)))) (x : σ) (hx : I x) {s : St} (hw : Weak KK 29 0 s (h40_0 (t4 x) (t17 x) (t18 x) (t19 x) (m x))) : Tri Try.prog KK 29 0 (.loop c40_0) s (q40_0 R) :=
  Tri.weak hw (Tri.loops fol I (fun x => h40_0 (t4 x) (t17 x) (t18 x) (t19 x) (m x)) μ (fun x hx => (B40_0_eq (t4 x) (t17 x) (t18 x) (t19 x) (m x) R _).mpr (step x hx)) x hx)
noncomputable def F40 (a0 : AV) (a1 : AV) (R : AV → Mem → Prop) : Prop :=
callQ Try.prog KK.gl [] 24 [a0] fun v0 =>
ex_i64 v0 fun z1 =>
bif (z1 != (0)) then (
retL R [] [some (intA z1)]) else (
opP (lenS a1) fun v2 =>
ex_i64 v2 fun z3 =>
bif (decide (z3 > (24))) then (
retL R [] [some (intA (2))]) else (
opP (lenS a1) fun v4 =>
ex_i64 v4 fun z5 =>
Tri Try.prog KK 29 0 (.loop c40_0) ⟨[(0, a0), (1, a1), (4, (intA (0))), (9, a0), (10, (intA z1)), (5, (intA z1)), (11, (intA z1)), (12, (boolA (z1 != (0)))), (14, a1), (15, (intA z3)), (16, (boolA (decide (z3 > (24))))), (17, a1), (18, (intA z5)), (19, (intA (0)))], [], 75⟩ (q40_0 R)))
theorem F40_own (a0 : AV) (a1 : AV) (R : AV → Mem → Prop) (h : F40 a0 a1 R) : Own Try.prog KK.gl 40 [a0, a1] R := own_of_F fol Try.func40 (code := c40) (by kernel_rfl) (by kernel_rfl) (by kernel_rfl) (X := F40 a0 a1 R) (by kernel_rfl) h
/- skyway/load.count -/
noncomputable def c41 : Code := ((Try.f41).body).getD .skip
noncomputable def q41 (R : AV → Mem → Prop) : AExit → St → Prop := retQ Try.prog Try.f41 R
noncomputable def c41_0 : Code := loopB c41 0
noncomputable def q41_0 (R : AV → Mem → Prop) : AExit → St → Prop := contW Try.prog KK 53 0 c41 0 (q41 R)
noncomputable def qq41_0 (R : AV → Mem → Prop) (N0 : St → Prop) : AExit → St → Prop := thenQ N0 (q41_0 R)
def h41_0 (t0 : AV) (t2 : Int) (t6 : AV) (t7 : Int) (t8 : AV) (t9 : Int) (t18 : AV) (t19 : Int) (t20 : Int) (m : Mem) : St := ⟨[(0, t0), (2, (intA t2)), (6, t6), (7, (intA t7)), (8, t8), (9, (intA t9)), (18, t18), (19, (intA t19)), (20, (intA t20))], m, 100000⟩
noncomputable def B41_0 (t0 : AV) (t2 : Int) (t6 : AV) (t7 : Int) (t8 : AV) (t9 : Int) (t18 : AV) (t19 : Int) (t20 : Int) (m : Mem) (R : AV → Mem → Prop) (N0 : St → Prop) : Prop :=
bif (decide (t20 < t19)) then (
opP (idxS 1 t18 (intA t20)) fun v5 =>
opP (ldS (mget m) v5) fun v6 =>
callQ Try.prog KK.gl m 20 [v6, (intA t2)] fun v7 =>
exT2 v7 fun c8 c9 =>
exA6 c8 fun c10 c11 c12 c13 c14 c15 =>
ex_i64 c10 fun z16 =>
ex_i64 c11 fun z17 =>
ex_i64 c12 fun z18 =>
ex_i64 c13 fun z19 =>
ex_i64 c14 fun z20 =>
ex_i64 c15 fun z21 =>
ex_i64 c9 fun z22 =>
bif (z22 != (0)) then (
N0 ⟨[(0, t0), (2, (intA t2)), (6, t6), (7, (intA t7)), (8, t8), (9, (intA t9)), (18, t18), (19, (intA t19)), (20, (intA (IntKind.wrap .i64 (t20 + (1))))), (21, (boolA (decide (t20 < t19)))), (22, v5), (23, v6), (11, v6), (25, v6), (26, (intA t2)), (27, (AV.tup [(AV.agg [(intA z16), (intA z17), (intA z18), (intA z19), (intA z20), (intA z21)]), (intA z22)])), (24, (AV.tup [(AV.agg [(intA z16), (intA z17), (intA z18), (intA z19), (intA z20), (intA z21)]), (intA z22)])), (28, (AV.agg [(intA z16), (intA z17), (intA z18), (intA z19), (intA z20), (intA z21)])), (29, (intA z22)), (12, (AV.ptr 100073 0)), (13, (intA z22)), (30, (intA z22)), (31, (boolA (z22 != (0)))), (50, (intA (IntKind.wrap .i64 (t20 + (1)))))], ((100073, some ⟨[(intA z16), (intA z17), (intA z18), (intA z19), (intA z20), (intA z21)], 39⟩) :: (100073, some ⟨[(intA (0)), (intA (0)), (intA (0)), (intA (0)), (intA (0)), (intA (0))], 39⟩) :: m), 100080⟩) else (
callQ Try.prog KK.gl ((100073, some ⟨[(intA z16), (intA z17), (intA z18), (intA z19), (intA z20), (intA z21)], 39⟩) :: (100073, some ⟨[(intA (0)), (intA (0)), (intA (0)), (intA (0)), (intA (0)), (intA (0))], 39⟩) :: m) 32 [t0, (AV.agg [(intA z17), (intA z18)]), (intA z19)] fun v23 =>
ex_i64 v23 fun z24 =>
bif (decide (z24 ≥ (0))) then (
opP (idxS 1 t8 (intA z24)) fun v25 =>
opP (ldS (mget ((100073, some ⟨[(intA z16), (intA z17), (intA z18), (intA z19), (intA z20), (intA z21)], 39⟩) :: (100073, some ⟨[(intA (0)), (intA (0)), (intA (0)), (intA (0)), (intA (0)), (intA (0))], 39⟩) :: m)) v25) fun v26 =>
ex_i64 v26 fun z27 =>
opP (idxS 1 t8 (intA z24)) fun v28 =>
storeW Try.prog (mget ((100073, some ⟨[(intA z16), (intA z17), (intA z18), (intA z19), (intA z20), (intA z21)], 39⟩) :: (100073, some ⟨[(intA (0)), (intA (0)), (intA (0)), (intA (0)), (intA (0)), (intA (0))], 39⟩) :: m)) 3 v28 (intA (IntKind.wrap .i64 (z27 + (1)))) fun v29 d29 =>
N0 ⟨[(0, t0), (2, (intA t2)), (6, t6), (7, (intA t7)), (8, t8), (9, (intA t9)), (18, t18), (19, (intA t19)), (20, (intA (IntKind.wrap .i64 (t20 + (1))))), (21, (boolA (decide (t20 < t19)))), (22, v5), (23, v6), (11, v6), (25, v6), (26, (intA t2)), (27, (AV.tup [(AV.agg [(intA z16), (intA z17), (intA z18), (intA z19), (intA z20), (intA z21)]), (intA z22)])), (24, (AV.tup [(AV.agg [(intA z16), (intA z17), (intA z18), (intA z19), (intA z20), (intA z21)]), (intA z22)])), (28, (AV.agg [(intA z16), (intA z17), (intA z18), (intA z19), (intA z20), (intA z21)])), (29, (intA z22)), (12, (AV.ptr 100073 0)), (13, (intA z22)), (30, (intA z22)), (31, (boolA (z22 != (0)))), (32, t0), (33, (AV.ptr 100073 0)), (34, (AV.ptr 100073 1)), (35, (AV.agg [(intA z17), (intA z18)])), (36, (AV.ptr 100073 0)), (37, (AV.ptr 100073 3)), (38, (intA z19)), (39, (intA z24)), (14, (intA z24)), (40, (intA z24)), (41, (boolA (decide (z24 ≥ (0))))), (42, t8), (43, (intA z24)), (44, v25), (45, (intA z27)), (46, (intA (IntKind.wrap .i64 (z27 + (1))))), (47, v28), (50, (intA (IntKind.wrap .i64 (t20 + (1)))))], (mpushs ((100073, some ⟨[(intA z16), (intA z17), (intA z18), (intA z19), (intA z20), (intA z21)], 39⟩) :: (100073, some ⟨[(intA (0)), (intA (0)), (intA (0)), (intA (0)), (intA (0)), (intA (0))], 39⟩) :: m) d29), 100161⟩) else (
N0 ⟨[(0, t0), (2, (intA t2)), (6, t6), (7, (intA t7)), (8, t8), (9, (intA (IntKind.wrap .i64 (t9 + (1))))), (18, t18), (19, (intA t19)), (20, (intA (IntKind.wrap .i64 (t20 + (1))))), (21, (boolA (decide (t20 < t19)))), (22, v5), (23, v6), (11, v6), (25, v6), (26, (intA t2)), (27, (AV.tup [(AV.agg [(intA z16), (intA z17), (intA z18), (intA z19), (intA z20), (intA z21)]), (intA z22)])), (24, (AV.tup [(AV.agg [(intA z16), (intA z17), (intA z18), (intA z19), (intA z20), (intA z21)]), (intA z22)])), (28, (AV.agg [(intA z16), (intA z17), (intA z18), (intA z19), (intA z20), (intA z21)])), (29, (intA z22)), (12, (AV.ptr 100073 0)), (13, (intA z22)), (30, (intA z22)), (31, (boolA (z22 != (0)))), (32, t0), (33, (AV.ptr 100073 0)), (34, (AV.ptr 100073 1)), (35, (AV.agg [(intA z17), (intA z18)])), (36, (AV.ptr 100073 0)), (37, (AV.ptr 100073 3)), (38, (intA z19)), (39, (intA z24)), (14, (intA z24)), (40, (intA z24)), (41, (boolA (decide (z24 ≥ (0))))), (48, (intA t9)), (49, (intA (IntKind.wrap .i64 (t9 + (1))))), (50, (intA (IntKind.wrap .i64 (t20 + (1)))))], ((100073, some ⟨[(intA z16), (intA z17), (intA z18), (intA z19), (intA z20), (intA z21)], 39⟩) :: (100073, some ⟨[(intA (0)), (intA (0)), (intA (0)), (intA (0)), (intA (0)), (intA (0))], 39⟩) :: m), 100157⟩))) else (
retL R m [some t8, some (intA t9)])
theorem B41_0_eq (t0 : AV) (t2 : Int) (t6 : AV) (t7 : Int) (t8 : AV) (t9 : Int) (t18 : AV) (t19 : Int) (t20 : Int) (m : Mem) (R : AV → Mem → Prop) (N0 : St → Prop) : W Try.prog KK 53 0 c41_0 (h41_0 t0 t2 t6 t7 t8 t9 t18 t19 t20 m) (qq41_0 R N0) = B41_0 t0 t2 t6 t7 t8 t9 t18 t19 t20 m R N0 := by kernel_rfl
theorem L41_0 (R : AV → Mem → Prop) {σ : Type} (I : σ → Prop) (t0 : σ → AV) (t2 : σ → Int) (t6 : σ → AV) (t7 : σ → Int) (t8 : σ → AV) (t9 : σ → Int) (t18 : σ → AV) (t19 : σ → Int) (t20 : σ → Int) (m : σ → Mem) (μ : σ → Nat) (step : ∀ x, I x → B41_0 (t0 x) (t2 x) (t6 x) (t7 x) (t8 x) (t9 x) (t18 x) (t19 x) (t20 x) (m x) R (fun s' => ∃ y, I y ∧ μ y < μ x ∧ Weak KK 53 0 s' (h41_0 (t0 y) (t2 y) (t6 y) (t7 y) (t8 y) (t9 y) (t18 y) (t19 y) (t20 y) (m y)))) (x : σ) (hx : I x) {s : St} (hw : Weak KK 53 0 s (h41_0 (t0 x) (t2 x) (t6 x) (t7 x) (t8 x) (t9 x) (t18 x) (t19 x) (t20 x) (m x))) : Tri Try.prog KK 53 0 (.loop c41_0) s (q41_0 R) :=
  Tri.weak hw (Tri.loops fol I (fun x => h41_0 (t0 x) (t2 x) (t6 x) (t7 x) (t8 x) (t9 x) (t18 x) (t19 x) (t20 x) (m x)) μ (fun x hx => (B41_0_eq (t0 x) (t2 x) (t6 x) (t7 x) (t8 x) (t9 x) (t18 x) (t19 x) (t20 x) (m x) R _).mpr (step x hx)) x hx)
noncomputable def F41 (a0 : AV) (a1 : AV) (a2 : Int) (R : AV → Mem → Prop) : Prop :=
opP (lenS a0) fun v0 =>
ex_i64 v0 fun z1 =>
opN (mks 4 3 1 8 [(intA (0))] (intA z1) (intA z1)) [] fun v2 m2 =>
opP (lenS a1) fun v3 =>
ex_i64 v3 fun z4 =>
Tri Try.prog KK 53 0 (.loop c41_0) ⟨[(0, a0), (1, a1), (2, (intA a2)), (6, AV.nils), (7, (intA (0))), (15, a0), (16, (intA z1)), (17, v2), (8, v2), (9, (intA (0))), (18, a1), (19, (intA z4)), (20, (intA (0)))], m2, 10⟩ (q41_0 R)
theorem F41_own (a0 : AV) (a1 : AV) (a2 : Int) (R : AV → Mem → Prop) (h : F41 a0 a1 a2 R) : Own Try.prog KK.gl 41 [a0, a1, (intA a2)] R := own_of_F fol Try.func41 (code := c41) (by kernel_rfl) (by kernel_rfl) (by kernel_rfl) (X := F41 a0 a1 a2 R) (by kernel_rfl) h
/- skyway/load.Count -/
noncomputable def c19 : Code := ((Try.f19).body).getD .skip
noncomputable def q19 (R : AV → Mem → Prop) : AExit → St → Prop := retQ Try.prog Try.f19 R
noncomputable def F19 (a0 : AV) (a1 : AV) (a2 : Int) (R : AV → Mem → Prop) : Prop :=
callQ Try.prog KK.gl [] 40 [a0, a1] fun v0 =>
ex_i64 v0 fun z1 =>
bif (z1 != (0)) then (
retL R [] [some AV.nils, some (intA (0)), some (intA z1)]) else (
bif (decide (a2 < (0))) then (
retL R [] [some AV.nils, some (intA (0)), some (intA (12))]) else (
bif (decide (a2 > (200000))) then (
retL R [] [some AV.nils, some (intA (0)), some (intA (12))]) else (
callW Try.prog KK.gl [] 81 41 [a0, a1, (intA a2)] fun v2 m2 =>
exT2 v2 fun c3 c4 =>
ex_i64 c4 fun z5 =>
retL R m2 [some c3, some (intA z5), some (intA (0))])))
theorem F19_own (a0 : AV) (a1 : AV) (a2 : Int) (R : AV → Mem → Prop) (h : F19 a0 a1 a2 R) : Own Try.prog KK.gl 19 [a0, a1, (intA a2)] R := own_of_F fol Try.func19 (code := c19) (by kernel_rfl) (by kernel_rfl) (by kernel_rfl) (X := F19 a0 a1 a2 R) (by kernel_rfl) h
/- skyway/skywaykeep3.LoadAdds -/
noncomputable def c8 : Code := ((Try.f8).body).getD .skip
noncomputable def q8 (R : AV → Mem → Prop) : AExit → St → Prop := retQ Try.prog Try.f8 R
noncomputable def c8_0 : Code := loopB c8 0
noncomputable def q8_0 (R : AV → Mem → Prop) : AExit → St → Prop := contW Try.prog KK 104 0 c8 0 (q8 R)
noncomputable def qq8_0 (R : AV → Mem → Prop) (N0 : St → Prop) : AExit → St → Prop := thenQ N0 (q8_0 R)
def h8_0 (t8 : Bool) (t9 : AV) (t12 : AV) (t15 : AV) (t85 : Int) (t86 : Int) (m : Mem) : St := ⟨[(8, (boolA t8)), (9, t9), (12, t12), (15, t15), (85, (intA t85)), (86, (intA t86))], m, 100000⟩
noncomputable def B8_0 (t8 : Bool) (t9 : AV) (t12 : AV) (t15 : AV) (t85 : Int) (t86 : Int) (m : Mem) (R : AV → Mem → Prop) (N0 : St → Prop) : Prop :=
bif (decide (t86 < t85)) then (
opP (idxS 1 t9 (intA t86)) fun v36 =>
opP (ldS (mget m) v36) fun v37 =>
ex_i64 v37 fun z38 =>
opP (idxS 1 t12 (intA t86)) fun v39 =>
opP (ldS (mget m) v39) fun v40 =>
ex_i64 v40 fun z41 =>
opP (idxS 1 t15 (intA t86)) fun v42 =>
opP (ldS (mget m) v42) fun v43 =>
ex_i64 v43 fun z44 =>
bif ((IntKind.wrap .i64 (z38 + z41)) != z44) then (
retL R m [some (boolA false)]) else (
N0 ⟨[(8, (boolA t8)), (9, t9), (12, t12), (15, t15), (85, (intA t85)), (86, (intA (IntKind.wrap .i64 (t86 + (1))))), (87, (boolA (decide (t86 < t85)))), (88, (intA t86)), (18, (intA t86)), (89, t9), (90, (intA t86)), (91, v36), (92, (intA z38)), (93, t12), (94, (intA t86)), (95, v39), (96, (intA z41)), (97, (intA (IntKind.wrap .i64 (z38 + z41)))), (98, t15), (99, (intA t86)), (100, v42), (101, (intA z44)), (102, (boolA ((IntKind.wrap .i64 (z38 + z41)) != z44))), (103, (intA (IntKind.wrap .i64 (t86 + (1)))))], m, 100019⟩)) else (
retL R m [some (boolA true)])
theorem B8_0_eq (t8 : Bool) (t9 : AV) (t12 : AV) (t15 : AV) (t85 : Int) (t86 : Int) (m : Mem) (R : AV → Mem → Prop) (N0 : St → Prop) : W Try.prog KK 104 0 c8_0 (h8_0 t8 t9 t12 t15 t85 t86 m) (qq8_0 R N0) = B8_0 t8 t9 t12 t15 t85 t86 m R N0 := by kernel_rfl
theorem L8_0 (R : AV → Mem → Prop) {σ : Type} (I : σ → Prop) (t8 : σ → Bool) (t9 : σ → AV) (t12 : σ → AV) (t15 : σ → AV) (t85 : σ → Int) (t86 : σ → Int) (m : σ → Mem) (μ : σ → Nat) (step : ∀ x, I x → B8_0 (t8 x) (t9 x) (t12 x) (t15 x) (t85 x) (t86 x) (m x) R (fun s' => ∃ y, I y ∧ μ y < μ x ∧ Weak KK 104 0 s' (h8_0 (t8 y) (t9 y) (t12 y) (t15 y) (t85 y) (t86 y) (m y)))) (x : σ) (hx : I x) {s : St} (hw : Weak KK 104 0 s (h8_0 (t8 x) (t9 x) (t12 x) (t15 x) (t85 x) (t86 x) (m x))) : Tri Try.prog KK 104 0 (.loop c8_0) s (q8_0 R) :=
  Tri.weak hw (Tri.loops fol I (fun x => h8_0 (t8 x) (t9 x) (t12 x) (t15 x) (t85 x) (t86 x) (m x)) μ (fun x hx => (B8_0_eq (t8 x) (t9 x) (t12 x) (t15 x) (t85 x) (t86 x) (m x) R _).mpr (step x hx)) x hx)
noncomputable def F8 (a0 : AV) (a1 : AV) (a2 : AV) (a3 : Int) (R : AV → Mem → Prop) : Prop :=
callQ Try.prog KK.gl [] 18 [] fun v0 =>
exB v0 fun b1 =>
bif (!b1) then (
retL R [] [some (boolA false)]) else (
callW Try.prog KK.gl [] 69 19 [a0, a1, (intA a3)] fun v2 m2 =>
exT3 v2 fun c3 c4 c5 =>
ex_i64 c4 fun z6 =>
ex_i64 c5 fun z7 =>
callW Try.prog KK.gl m2 143 19 [a0, a2, (intA a3)] fun v8 m8 =>
exT3 v8 fun c9 c10 c11 =>
ex_i64 c10 fun z12 =>
ex_i64 c11 fun z13 =>
opN (bsl 217 27 1 2 [AV.nils] [(0, a1), (1, a2)]) m8 fun v14 m14 =>
callW Try.prog KK.gl m14 218 21 [v14] fun v15 m15 =>
callW Try.prog KK.gl m15 283 19 [a0, v15, (intA a3)] fun v16 m16 =>
exT3 v16 fun c17 c18 c19 =>
ex_i64 c18 fun z20 =>
ex_i64 c19 fun z21 =>
bif (z7 != (0)) then (
retL R m16 [some (boolA true)]) else (
bif (z13 != (0)) then (
retL R m16 [some (boolA true)]) else (
bif (z21 != (0)) then (
retL R m16 [some (boolA true)]) else (
bif ((IntKind.wrap .i64 (z6 + z12)) != z20) then (
retL R m16 [some (boolA false)]) else (
opP (lenS c3) fun v22 =>
ex_i64 v22 fun z23 =>
opP (lenS a0) fun v24 =>
ex_i64 v24 fun z25 =>
bif (z23 != z25) then (
retL R m16 [some (boolA false)]) else (
opP (lenS c9) fun v26 =>
ex_i64 v26 fun z27 =>
opP (lenS a0) fun v28 =>
ex_i64 v28 fun z29 =>
bif (z27 != z29) then (
retL R m16 [some (boolA false)]) else (
opP (lenS c17) fun v30 =>
ex_i64 v30 fun z31 =>
opP (lenS a0) fun v32 =>
ex_i64 v32 fun z33 =>
bif (z31 != z33) then (
retL R m16 [some (boolA false)]) else (
opP (lenS c17) fun v34 =>
ex_i64 v34 fun z35 =>
Tri Try.prog KK 104 0 (.loop c8_0) ⟨[(0, a0), (1, a1), (2, a2), (3, (intA a3)), (8, (boolA false)), (19, (boolA b1)), (20, (boolA (!b1))), (22, a0), (23, a1), (24, (intA a3)), (25, (AV.tup [c3, (intA z6), (intA z7)])), (21, (AV.tup [c3, (intA z6), (intA z7)])), (26, c3), (27, (intA z6)), (28, (intA z7)), (9, c3), (10, (intA z6)), (11, (intA z7)), (30, a0), (31, a2), (32, (intA a3)), (33, (AV.tup [c9, (intA z12), (intA z13)])), (29, (AV.tup [c9, (intA z12), (intA z13)])), (34, c9), (35, (intA z12)), (36, (intA z13)), (12, c9), (13, (intA z12)), (14, (intA z13)), (38, a0), (39, a1), (40, a2), (41, v14), (42, v15), (43, (intA a3)), (44, (AV.tup [c17, (intA z20), (intA z21)])), (37, (AV.tup [c17, (intA z20), (intA z21)])), (45, c17), (46, (intA z20)), (47, (intA z21)), (15, c17), (16, (intA z20)), (17, (intA z21)), (48, (intA z7)), (49, (boolA (z7 != (0)))), (50, (boolA false)), (51, (intA z13)), (52, (boolA (z13 != (0)))), (53, (boolA (z13 != (0)))), (54, (boolA false)), (55, (intA z21)), (56, (boolA (z21 != (0)))), (57, (boolA (z21 != (0)))), (58, (intA z6)), (59, (intA z12)), (60, (intA (IntKind.wrap .i64 (z6 + z12)))), (61, (intA z20)), (62, (boolA ((IntKind.wrap .i64 (z6 + z12)) != z20))), (63, (boolA false)), (64, c3), (65, (intA z23)), (66, a0), (67, (intA z25)), (68, (boolA (z23 != z25))), (69, (boolA (z23 != z25))), (70, (boolA false)), (71, c9), (72, (intA z27)), (73, a0), (74, (intA z29)), (75, (boolA (z27 != z29))), (76, (boolA (z27 != z29))), (77, (boolA false)), (78, c17), (79, (intA z31)), (80, a0), (81, (intA z33)), (82, (boolA (z31 != z33))), (83, (boolA (z31 != z33))), (84, c17), (85, (intA z35)), (86, (intA (0)))], m16, 393⟩ (q8_0 R)))))))))
theorem F8_own (a0 : AV) (a1 : AV) (a2 : AV) (a3 : Int) (R : AV → Mem → Prop) (h : F8 a0 a1 a2 a3 R) : Own Try.prog KK.gl 8 [a0, a1, a2, (intA a3)] R := own_of_F fol Try.func8 (code := c8) (by kernel_rfl) (by kernel_rfl) (by kernel_rfl) (X := F8 a0 a1 a2 a3 R) (by kernel_rfl) h
/- slices.Clone[skyway/api.Tube,skyway/api.TubeNode] -/
noncomputable def c33 : Code := ((Try.f33).body).getD .skip
noncomputable def q33 (R : AV → Mem → Prop) : AExit → St → Prop := retQ Try.prog Try.f33 R
noncomputable def F33 (a0 : AV) (R : AV → Mem → Prop) : Prop :=
nilK a0 fun b0 =>
bif b0 then (
retL R [] [some AV.nils]) else (
opN (bsl 3 39 6 0 [(intA (0)), (intA (0)), (intA (0)), (intA (0)), (intA (0)), (intA (0))] []) [] fun v2 m2 =>
opN (app (mget m2) 39 6 48 [(intA (0)), (intA (0)), (intA (0)), (intA (0)), (intA (0)), (intA (0))] 5 v2 a0) m2 fun v3 m3 =>
retL R m3 [some v3])
theorem F33_own (a0 : AV) (R : AV → Mem → Prop) (h : F33 a0 R) : Own Try.prog KK.gl 33 [a0] R := own_of_F fol Try.func33 (code := c33) (by kernel_rfl) (by kernel_rfl) (by kernel_rfl) (X := F33 a0 R) (by kernel_rfl) h
/- slices.Concat[[]skyway/api.Tube,skyway/api.Tube] -/
noncomputable def c21 : Code := ((Try.f21).body).getD .skip
noncomputable def q21 (R : AV → Mem → Prop) : AExit → St → Prop := retQ Try.prog Try.f21 R
noncomputable def c21_0 : Code := loopB c21 0
noncomputable def q21_0 (R : AV → Mem → Prop) : AExit → St → Prop := contW Try.prog KK 36 0 c21 0 (q21 R)
noncomputable def qq21_0 (R : AV → Mem → Prop) (N0 : St → Prop) : AExit → St → Prop := thenQ N0 (q21_0 R)
def h21_0 (t0 : AV) (t2 : AV) (t3 : Int) (t9 : AV) (t10 : Int) (t11 : Int) (m : Mem) : St := ⟨[(0, t0), (2, t2), (3, (intA t3)), (9, t9), (10, (intA t10)), (11, (intA t11))], m, 100000⟩
noncomputable def c21_1 : Code := loopB c21 1
noncomputable def q21_1 (R : AV → Mem → Prop) : AExit → St → Prop := contW Try.prog KK 36 0 c21 1 (q21 R)
noncomputable def qq21_1 (R : AV → Mem → Prop) (N0 : St → Prop) : AExit → St → Prop := thenQ N0 (q21_1 R)
def h21_1 (t2 : AV) (t6 : AV) (t25 : AV) (t26 : Int) (t27 : Int) (m : Mem) : St := ⟨[(2, t2), (6, t6), (25, t25), (26, (intA t26)), (27, (intA t27))], m, 200000⟩
noncomputable def B21_0 (t0 : AV) (t2 : AV) (t3 : Int) (t9 : AV) (t10 : Int) (t11 : Int) (m : Mem) (R : AV → Mem → Prop) (N0 : St → Prop) : Prop :=
bif (decide (t11 < t10)) then (
opP (idxS 1 t9 (intA t11)) fun v2 =>
opP (ldS (mget m) v2) fun v3 =>
opP (lenS v3) fun v4 =>
ex_i64 v4 fun z5 =>
bif (decide ((IntKind.wrap .i64 (t3 + z5)) < (0))) then (
opP (opA Try.prog (.makeInterface 9 (.tmp 0)) 20 [(AV.sc (.string ⟨#[108, 101, 110, 32, 111, 117, 116, 32, 111, 102, 32, 114, 97, 110, 103, 101]⟩))] (mget m) 100011) fun v6 =>
opP (opA Try.prog (.panic (.tmp 0)) 0 [v6] (mget m) 100012) fun v7 =>
N0 ⟨[(0, t0), (2, t2), (3, (intA (IntKind.wrap .i64 (t3 + z5)))), (9, t9), (10, (intA t10)), (11, (intA (IntKind.wrap .i64 (t11 + (1))))), (12, (boolA (decide (t11 < t10)))), (13, v2), (14, v3), (5, v3), (15, (intA t3)), (16, v3), (17, (intA z5)), (18, (intA (IntKind.wrap .i64 (t3 + z5)))), (19, (intA (IntKind.wrap .i64 (t3 + z5)))), (20, (boolA (decide ((IntKind.wrap .i64 (t3 + z5)) < (0))))), (21, v6), (22, (intA (IntKind.wrap .i64 (t11 + (1)))))], m, 100015⟩) else (
N0 ⟨[(0, t0), (2, t2), (3, (intA (IntKind.wrap .i64 (t3 + z5)))), (9, t9), (10, (intA t10)), (11, (intA (IntKind.wrap .i64 (t11 + (1))))), (12, (boolA (decide (t11 < t10)))), (13, v2), (14, v3), (5, v3), (15, (intA t3)), (16, v3), (17, (intA z5)), (18, (intA (IntKind.wrap .i64 (t3 + z5)))), (19, (intA (IntKind.wrap .i64 (t3 + z5)))), (20, (boolA (decide ((IntKind.wrap .i64 (t3 + z5)) < (0))))), (22, (intA (IntKind.wrap .i64 (t11 + (1)))))], m, 100013⟩)) else (
callW Try.prog KK.gl m 100002 44 [AV.nils, (intA t3)] fun v8 m8 =>
opP (lenS t0) fun v9 =>
ex_i64 v9 fun z10 =>
Tri Try.prog KK 36 0 (.loop c21_1) ⟨[(0, t0), (2, t2), (3, (intA t3)), (9, t9), (10, (intA t10)), (11, (intA t11)), (12, (boolA (decide (t11 < t10)))), (23, (intA t3)), (24, v8), (6, v8), (25, t0), (26, (intA z10)), (27, (intA (0)))], m8, 100070⟩ (q21_1 R))
theorem B21_0_eq (t0 : AV) (t2 : AV) (t3 : Int) (t9 : AV) (t10 : Int) (t11 : Int) (m : Mem) (R : AV → Mem → Prop) (N0 : St → Prop) : W Try.prog KK 36 0 c21_0 (h21_0 t0 t2 t3 t9 t10 t11 m) (qq21_0 R N0) = B21_0 t0 t2 t3 t9 t10 t11 m R N0 := by kernel_rfl
theorem L21_0 (R : AV → Mem → Prop) {σ : Type} (I : σ → Prop) (t0 : σ → AV) (t2 : σ → AV) (t3 : σ → Int) (t9 : σ → AV) (t10 : σ → Int) (t11 : σ → Int) (m : σ → Mem) (μ : σ → Nat) (step : ∀ x, I x → B21_0 (t0 x) (t2 x) (t3 x) (t9 x) (t10 x) (t11 x) (m x) R (fun s' => ∃ y, I y ∧ μ y < μ x ∧ Weak KK 36 0 s' (h21_0 (t0 y) (t2 y) (t3 y) (t9 y) (t10 y) (t11 y) (m y)))) (x : σ) (hx : I x) {s : St} (hw : Weak KK 36 0 s (h21_0 (t0 x) (t2 x) (t3 x) (t9 x) (t10 x) (t11 x) (m x))) : Tri Try.prog KK 36 0 (.loop c21_0) s (q21_0 R) :=
  Tri.weak hw (Tri.loops fol I (fun x => h21_0 (t0 x) (t2 x) (t3 x) (t9 x) (t10 x) (t11 x) (m x)) μ (fun x hx => (B21_0_eq (t0 x) (t2 x) (t3 x) (t9 x) (t10 x) (t11 x) (m x) R _).mpr (step x hx)) x hx)
noncomputable def B21_1 (t2 : AV) (t6 : AV) (t25 : AV) (t26 : Int) (t27 : Int) (m : Mem) (R : AV → Mem → Prop) (N0 : St → Prop) : Prop :=
bif (decide (t27 < t26)) then (
opP (idxS 1 t25 (intA t27)) fun v11 =>
opP (ldS (mget m) v11) fun v12 =>
opN (app (mget m) 24 1 24 [AV.nils] 200006 t6 v12) m fun v13 m13 =>
N0 ⟨[(2, t2), (6, v13), (25, t25), (26, (intA t26)), (27, (intA (IntKind.wrap .i64 (t27 + (1))))), (28, (boolA (decide (t27 < t26)))), (29, v11), (30, v12), (8, v12), (31, t6), (32, v12), (33, v13), (34, (intA (IntKind.wrap .i64 (t27 + (1)))))], m13, 200010⟩) else (
retL R m [some t6])
theorem B21_1_eq (t2 : AV) (t6 : AV) (t25 : AV) (t26 : Int) (t27 : Int) (m : Mem) (R : AV → Mem → Prop) (N0 : St → Prop) : W Try.prog KK 36 0 c21_1 (h21_1 t2 t6 t25 t26 t27 m) (qq21_1 R N0) = B21_1 t2 t6 t25 t26 t27 m R N0 := by kernel_rfl
theorem L21_1 (R : AV → Mem → Prop) {σ : Type} (I : σ → Prop) (t2 : σ → AV) (t6 : σ → AV) (t25 : σ → AV) (t26 : σ → Int) (t27 : σ → Int) (m : σ → Mem) (μ : σ → Nat) (step : ∀ x, I x → B21_1 (t2 x) (t6 x) (t25 x) (t26 x) (t27 x) (m x) R (fun s' => ∃ y, I y ∧ μ y < μ x ∧ Weak KK 36 0 s' (h21_1 (t2 y) (t6 y) (t25 y) (t26 y) (t27 y) (m y)))) (x : σ) (hx : I x) {s : St} (hw : Weak KK 36 0 s (h21_1 (t2 x) (t6 x) (t25 x) (t26 x) (t27 x) (m x))) : Tri Try.prog KK 36 0 (.loop c21_1) s (q21_1 R) :=
  Tri.weak hw (Tri.loops fol I (fun x => h21_1 (t2 x) (t6 x) (t25 x) (t26 x) (t27 x) (m x)) μ (fun x hx => (B21_1_eq (t2 x) (t6 x) (t25 x) (t26 x) (t27 x) (m x) R _).mpr (step x hx)) x hx)
noncomputable def F21 (a0 : AV) (R : AV → Mem → Prop) : Prop :=
opP (lenS a0) fun v0 =>
ex_i64 v0 fun z1 =>
Tri Try.prog KK 36 0 (.loop c21_0) ⟨[(0, a0), (2, AV.nils), (3, (intA (0))), (9, a0), (10, (intA z1)), (11, (intA (0)))], [], 5⟩ (q21_0 R)
theorem F21_own (a0 : AV) (R : AV → Mem → Prop) (h : F21 a0 R) : Own Try.prog KK.gl 21 [a0] R := own_of_F fol Try.func21 (code := c21) (by kernel_rfl) (by kernel_rfl) (by kernel_rfl) (X := F21 a0 R) (by kernel_rfl) h
/- slices.Grow[[]skyway/api.Tube,skyway/api.Tube] -/
noncomputable def c44 : Code := ((Try.f44).body).getD .skip
noncomputable def q44 (R : AV → Mem → Prop) : AExit → St → Prop := retQ Try.prog Try.f44 R
noncomputable def F44 (a0 : AV) (a1 : Int) (R : AV → Mem → Prop) : Prop :=
bif (decide (a1 < (0))) then (
opP (opA Try.prog (.makeInterface 9 (.tmp 0)) 20 [(AV.sc (.string ⟨#[99, 97, 110, 110, 111, 116, 32, 98, 101, 32, 110, 101, 103, 97, 116, 105, 118, 101]⟩))] (mget []) 3) fun v0 =>
opP (opA Try.prog (.panic (.tmp 0)) 0 [v0] (mget []) 4) fun v1 =>
opP (opA Try.prog (.call ⟨.builtin .cap, #[.tmp 0], #[27]⟩) 3 [a0] (mget []) 7) fun v2 =>
ex_i64 v2 fun z3 =>
opP (lenS a0) fun v4 =>
ex_i64 v4 fun z5 =>
bif (decide ((IntKind.wrap .i64 (a1 - (IntKind.wrap .i64 (z3 - z5)))) > (0))) then (
opP (opA Try.prog (.call ⟨.builtin .cap, #[.tmp 0], #[27]⟩) 3 [a0] (mget []) 17) fun v6 =>
ex_i64 v6 fun z7 =>
opP (opA Try.prog (.slice 27 (.tmp 0) none (some (.tmp 1)) none) 27 [a0, (intA z7)] (mget []) 18) fun v8 =>
opN (opA Try.prog (.call ⟨.builtin .append, #[.tmp 0, .tmp 1], #[27, 3]⟩) 27 [v8, (intA (IntKind.wrap .i64 (a1 - (IntKind.wrap .i64 (z3 - z5)))))] (mget []) 20) [] fun v9 m9 =>
opP (lenS a0) fun v10 =>
ex_i64 v10 fun z11 =>
opP (opA Try.prog (.slice 27 (.tmp 0) none (some (.tmp 1)) none) 27 [v9, (intA z11)] (mget m9) 23) fun v12 =>
retL R m9 [some v12]) else (
retL R [] [some a0])) else (
opP (opA Try.prog (.call ⟨.builtin .cap, #[.tmp 0], #[27]⟩) 3 [a0] (mget []) 5) fun v13 =>
ex_i64 v13 fun z14 =>
opP (lenS a0) fun v15 =>
ex_i64 v15 fun z16 =>
bif (decide ((IntKind.wrap .i64 (a1 - (IntKind.wrap .i64 (z14 - z16)))) > (0))) then (
opP (opA Try.prog (.call ⟨.builtin .cap, #[.tmp 0], #[27]⟩) 3 [a0] (mget []) 15) fun v17 =>
ex_i64 v17 fun z18 =>
opP (opA Try.prog (.slice 27 (.tmp 0) none (some (.tmp 1)) none) 27 [a0, (intA z18)] (mget []) 16) fun v19 =>
opN (opA Try.prog (.call ⟨.builtin .append, #[.tmp 0, .tmp 1], #[27, 3]⟩) 27 [v19, (intA (IntKind.wrap .i64 (a1 - (IntKind.wrap .i64 (z14 - z16)))))] (mget []) 18) [] fun v20 m20 =>
opP (lenS a0) fun v21 =>
ex_i64 v21 fun z22 =>
opP (opA Try.prog (.slice 27 (.tmp 0) none (some (.tmp 1)) none) 27 [v20, (intA z22)] (mget m20) 21) fun v23 =>
retL R m20 [some v23]) else (
retL R [] [some a0]))
theorem F44_own (a0 : AV) (a1 : Int) (R : AV → Mem → Prop) (h : F44 a0 a1 R) : Own Try.prog KK.gl 44 [a0, (intA a1)] R := own_of_F fol Try.func44 (code := c44) (by kernel_rfl) (by kernel_rfl) (by kernel_rfl) (X := F44 a0 a1 R) (by kernel_rfl) h
end Go.Proofs.Ytldiackagnjlgaa
