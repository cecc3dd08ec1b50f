/- Functions of the program as conditions on their answers; printed by wip/Gen.lean.txt. -/
import Derived.Test.YtldiackagnjlgaaX1T
set_option linter.unusedVariables false
set_option maxRecDepth 100000
set_option maxHeartbeats 4000000
namespace Go.Proofs.Ytldiackagnjlgaa
/- skyway/polygon.enters -/
noncomputable def c82 : Code := ((Try.f82).body).getD .skip
noncomputable def q82 (R : AV → Mem → Prop) : AExit → St → Prop := retQ Try.prog Try.f82 R
noncomputable def c82_0 : Code := loopB c82 0
noncomputable def q82_0 (R : AV → Mem → Prop) : AExit → St → Prop := contW Try.prog KK 127 0 c82 0 (q82 R)
noncomputable def qq82_0 (R : AV → Mem → Prop) (N0 : St → Prop) : AExit → St → Prop := thenQ N0 (q82_0 R)
def h82_0 (t0 : AV) (t1 : AV) (t4 : Bool) (t17 : Int) (t18 : Int) (m : Mem) : St := ⟨[(0, t0), (1, t1), (4, (boolA t4)), (17, (intA t17)), (18, (intA t18))], m, 100000⟩
noncomputable def c82_0_0 : Code := loopB c82_0 0
noncomputable def q82_0_0 (R : AV → Mem → Prop) (N0 : St → Prop) : AExit → St → Prop := contW Try.prog KK 127 0 c82_0 0 (qq82_0 R N0)
noncomputable def qq82_0_0 (R : AV → Mem → Prop) (N0 : St → Prop) (N1 : St → Prop) : AExit → St → Prop := thenQ N1 (q82_0_0 R N0)
def h82_0_0 (t0 : AV) (t1 : AV) (t4 : Bool) (t8 : AV) (t17 : Int) (t18 : Int) (t31 : AV) (t32 : Int) (t33 : Int) (m : Mem) : St := ⟨[(0, t0), (1, t1), (4, (boolA t4)), (6, (AV.ptr 100010 0)), (7, (AV.ptr 100011 0)), (8, t8), (17, (intA t17)), (18, (intA t18)), (31, t31), (32, (intA t32)), (33, (intA t33))], m, 200000⟩
noncomputable def c82_0_1 : Code := loopB c82_0 1
noncomputable def q82_0_1 (R : AV → Mem → Prop) (N0 : St → Prop) : AExit → St → Prop := contW Try.prog KK 127 0 c82_0 1 (qq82_0 R N0)
noncomputable def qq82_0_1 (R : AV → Mem → Prop) (N0 : St → Prop) (N1 : St → Prop) : AExit → St → Prop := thenQ N1 (q82_0_1 R N0)
def h82_0_1 (t0 : AV) (t1 : AV) (t4 : Bool) (t8 : AV) (t11 : Int) (t17 : Int) (t18 : Int) (m : Mem) : St := ⟨[(0, t0), (1, t1), (4, (boolA t4)), (6, (AV.ptr 100010 0)), (7, (AV.ptr 100011 0)), (8, t8), (11, (intA t11)), (17, (intA t17)), (18, (intA t18))], m, 300000⟩
noncomputable def c82_0_1_0 : Code := loopB c82_0_1 0
noncomputable def q82_0_1_0 (R : AV → Mem → Prop) (N0 : St → Prop) (N1 : St → Prop) : AExit → St → Prop := contW Try.prog KK 127 0 c82_0_1 0 (qq82_0_1 R N0 N1)
noncomputable def qq82_0_1_0 (R : AV → Mem → Prop) (N0 : St → Prop) (N1 : St → Prop) (N2 : St → Prop) : AExit → St → Prop := thenQ N2 (q82_0_1_0 R N0 N1)
def h82_0_1_0 (t0 : AV) (t1 : AV) (t4 : Bool) (t8 : AV) (t11 : Int) (t17 : Int) (t18 : Int) (t100 : Int) (t101 : Int) (m : Mem) : St := ⟨[(0, t0), (1, t1), (4, (boolA t4)), (6, (AV.ptr 100010 0)), (7, (AV.ptr 100011 0)), (8, t8), (11, (intA t11)), (12, (AV.ptr 300041 0)), (17, (intA t17)), (18, (intA t18)), (100, (intA t100)), (101, (intA t101))], m, 400000⟩
noncomputable def B82_0 (t0 : AV) (t1 : AV) (t4 : Bool) (t17 : Int) (t18 : Int) (m : Mem) (R : AV → Mem → Prop) (N0 : St → Prop) : Prop :=
bif (decide (t18 < t17)) then (
opM (idxS 2 t0 (intA t18)) fun v2 d2 =>
opM (ldA (look' (mpushs m d2) (topId v2 ++ ([]))) 2 v2) fun v3 d3 =>
exA2 v3 fun c4 c5 =>
ex_i64 c4 fun z6 =>
ex_i64 c5 fun z7 =>
callF Try.prog KK.gl (mpushs (mpushs m d2) d3) 100009 72 [t0, (intA t18)] fun v8 d8 ft8 =>
exA2 v8 fun c9 c10 =>
ex_i64 c9 fun z11 =>
ex_i64 c10 fun z12 =>
storeW Try.prog (look' ((100011, some ⟨[(intA (0)), (intA (0))], 35⟩) :: (100010, some ⟨[(intA (0)), (intA (0))], 35⟩) :: (mpushs (mpushs (mpushs m d2) d3) d8)) (topId (AV.ptr 100010 0) ++ (topId (AV.agg [(intA z6), (intA z7)]) ++ ([])))) 35 (AV.ptr 100010 0) (AV.agg [(intA z6), (intA z7)]) fun v13 d13 =>
storeW Try.prog (look' (mpushs ((100011, some ⟨[(intA (0)), (intA (0))], 35⟩) :: (100010, some ⟨[(intA (0)), (intA (0))], 35⟩) :: (mpushs (mpushs (mpushs m d2) d3) d8)) d13) (topId (AV.ptr 100011 0) ++ (topId (AV.agg [(intA z11), (intA z12)]) ++ ([])))) 35 (AV.ptr 100011 0) (AV.agg [(intA z11), (intA z12)]) fun v14 d14 =>
chk (confOk [0, 0, 3, 7, 0, 0, 48, 0, 0, 511, 1023] [⟨[], []⟩, ⟨[], []⟩, ⟨d2, []⟩, ⟨d3, (topId v2 ++ ([]))⟩, ⟨[], []⟩, ⟨[], []⟩, ⟨d8, ft8⟩, ⟨[(100010, some ⟨[(intA (0)), (intA (0))], 35⟩)], []⟩, ⟨[(100011, some ⟨[(intA (0)), (intA (0))], 35⟩)], []⟩, ⟨d13, (topId (AV.ptr 100010 0) ++ (topId (AV.agg [(intA z6), (intA z7)]) ++ ([])))⟩, ⟨d14, (topId (AV.ptr 100011 0) ++ (topId (AV.agg [(intA z11), (intA z12)]) ++ ([])))⟩]) (opP (ldA (mget (mpushs (mpushs ((100011, some ⟨[(intA (0)), (intA (0))], 35⟩) :: (100010, some ⟨[(intA (0)), (intA (0))], 35⟩) :: (mpushs (mpushs (mpushs m d2) d3) d8)) d13) d14)) 2 (AV.ptr 100010 0)) fun v15 =>
exA2 v15 fun c16 c17 =>
ex_i64 c16 fun z18 =>
ex_i64 c17 fun z19 =>
opP (ldA (mget (mpushs (mpushs ((100011, some ⟨[(intA (0)), (intA (0))], 35⟩) :: (100010, some ⟨[(intA (0)), (intA (0))], 35⟩) :: (mpushs (mpushs (mpushs m d2) d3) d8)) d13) d14)) 2 (AV.ptr 100011 0)) fun v20 =>
exA2 v20 fun c21 c22 =>
ex_i64 c21 fun z23 =>
ex_i64 c22 fun z24 =>
opN (bsl 100016 35 2 2 [(intA (0)), (intA (0))] [(0, (AV.agg [(intA z18), (intA z19)])), (1, (AV.agg [(intA z23), (intA z24)]))]) (mpushs (mpushs ((100011, some ⟨[(intA (0)), (intA (0))], 35⟩) :: (100010, some ⟨[(intA (0)), (intA (0))], 35⟩) :: (mpushs (mpushs (mpushs m d2) d3) d8)) d13) d14) fun v25 m25 =>
opP (lenS t1) fun v26 =>
ex_i64 v26 fun z27 =>
Tri Try.prog KK 127 0 (.loop c82_0_0) ⟨[(0, t0), (1, t1), (4, (boolA t4)), (17, (intA t17)), (18, (intA t18)), (19, (boolA (decide (t18 < t17)))), (20, (intA t18)), (5, (intA t18)), (21, t0), (22, (intA t18)), (23, v2), (24, (AV.agg [(intA z6), (intA z7)])), (25, t0), (26, (intA t18)), (27, (AV.agg [(intA z11), (intA z12)])), (6, (AV.ptr 100010 0)), (7, (AV.ptr 100011 0)), (28, (AV.agg [(intA z18), (intA z19)])), (29, (AV.agg [(intA z23), (intA z24)])), (30, v25), (8, v25), (31, t1), (32, (intA z27)), (33, (intA (0)))], m25, 100021⟩ (q82_0_0 R N0))) else (
retL R m [some (boolA false)])
theorem B82_0_eq (t0 : AV) (t1 : AV) (t4 : Bool) (t17 : Int) (t18 : Int) (m : Mem) (R : AV → Mem → Prop) (N0 : St → Prop) : W Try.prog KK 127 0 c82_0 (h82_0 t0 t1 t4 t17 t18 m) (qq82_0 R N0) = B82_0 t0 t1 t4 t17 t18 m R N0 := by kernel_rfl
theorem L82_0 (R : AV → Mem → Prop) {σ : Type} (I : σ → Prop) (t0 : σ → AV) (t1 : σ → AV) (t4 : σ → Bool) (t17 : σ → Int) (t18 : σ → Int) (m : σ → Mem) (μ : σ → Nat) (step : ∀ x, I x → B82_0 (t0 x) (t1 x) (t4 x) (t17 x) (t18 x) (m x) R (fun s' => ∃ y, I y ∧ μ y < μ x ∧ Weak KK 127 0 s' (h82_0 (t0 y) (t1 y) (t4 y) (t17 y) (t18 y) (m y)))) (x : σ) (hx : I x) {s : St} (hw : Weak KK 127 0 s (h82_0 (t0 x) (t1 x) (t4 x) (t17 x) (t18 x) (m x))) : Tri Try.prog KK 127 0 (.loop c82_0) s (q82_0 R) :=
  Tri.weak hw (Tri.loops fol I (fun x => h82_0 (t0 x) (t1 x) (t4 x) (t17 x) (t18 x) (m x)) μ (fun x hx => (B82_0_eq (t0 x) (t1 x) (t4 x) (t17 x) (t18 x) (m x) R _).mpr (step x hx)) x hx)
noncomputable def B82_0_0 (t0 : AV) (t1 : AV) (t4 : Bool) (t8 : AV) (t17 : Int) (t18 : Int) (t31 : AV) (t32 : Int) (t33 : Int) (m : Mem) (R : AV → Mem → Prop) (N0 : St → Prop) (N1 : St → Prop) : Prop :=
bif (decide (t33 < t32)) then (
opP (idxS 2 t31 (intA t33)) fun v28 =>
opP (ldA (mget m) 2 v28) fun v29 =>
exA2 v29 fun c30 c31 =>
ex_i64 c30 fun z32 =>
ex_i64 c31 fun z33 =>
opP (ldA (mget ((200003, some ⟨[(intA z32), (intA z33)], 35⟩) :: (200003, some ⟨[(intA (0)), (intA (0))], 35⟩) :: m)) 2 (AV.ptr 100010 0)) fun v34 =>
exA2 v34 fun c35 c36 =>
ex_i64 c35 fun z37 =>
ex_i64 c36 fun z38 =>
opP (ldA (mget ((200003, some ⟨[(intA z32), (intA z33)], 35⟩) :: (200003, some ⟨[(intA (0)), (intA (0))], 35⟩) :: m)) 2 (AV.ptr 100011 0)) fun v39 =>
exA2 v39 fun c40 c41 =>
ex_i64 c40 fun z42 =>
ex_i64 c41 fun z43 =>
callQ Try.prog KK.gl ((200003, some ⟨[(intA z32), (intA z33)], 35⟩) :: (200003, some ⟨[(intA (0)), (intA (0))], 35⟩) :: m) 84 [(AV.agg [(intA z37), (intA z38)]), (AV.agg [(intA z42), (intA z43)]), (AV.agg [(intA z32), (intA z33)])] fun v44 =>
exB v44 fun b45 =>
bif b45 then (
opN (bsl 200074 35 2 1 [(intA (0)), (intA (0))] [(0, (AV.agg [(intA z32), (intA z33)]))]) ((200003, some ⟨[(intA z32), (intA z33)], 35⟩) :: (200003, some ⟨[(intA (0)), (intA (0))], 35⟩) :: m) fun v46 m46 =>
opN (app (mget m46) 35 2 16 [(intA (0)), (intA (0))] 200075 t8 v46) m46 fun v47 m47 =>
N1 ⟨[(0, t0), (1, t1), (4, (boolA t4)), (6, (AV.ptr 100010 0)), (7, (AV.ptr 100011 0)), (8, v47), (17, (intA t17)), (18, (intA t18)), (31, t31), (32, (intA t32)), (33, (intA (IntKind.wrap .i64 (t33 + (1))))), (34, (boolA (decide (t33 < t32)))), (35, v28), (36, (AV.agg [(intA z32), (intA z33)])), (10, (AV.ptr 200003 0)), (37, (AV.agg [(intA z37), (intA z38)])), (38, (AV.agg [(intA z42), (intA z43)])), (39, (AV.agg [(intA z32), (intA z33)])), (40, (boolA b45)), (41, t8), (42, (AV.agg [(intA z32), (intA z33)])), (43, v46), (44, v47), (45, (intA (IntKind.wrap .i64 (t33 + (1)))))], m47, 200079⟩) else (
N1 ⟨[(0, t0), (1, t1), (4, (boolA t4)), (6, (AV.ptr 100010 0)), (7, (AV.ptr 100011 0)), (8, t8), (17, (intA t17)), (18, (intA t18)), (31, t31), (32, (intA t32)), (33, (intA (IntKind.wrap .i64 (t33 + (1))))), (34, (boolA (decide (t33 < t32)))), (35, v28), (36, (AV.agg [(intA z32), (intA z33)])), (10, (AV.ptr 200003 0)), (37, (AV.agg [(intA z37), (intA z38)])), (38, (AV.agg [(intA z42), (intA z43)])), (39, (AV.agg [(intA z32), (intA z33)])), (40, (boolA b45)), (45, (intA (IntKind.wrap .i64 (t33 + (1)))))], ((200003, some ⟨[(intA z32), (intA z33)], 35⟩) :: (200003, some ⟨[(intA (0)), (intA (0))], 35⟩) :: m), 200074⟩)) else (
callW Try.prog KK.gl m 200003 97 [t8, (AV.fn 98 [(AV.ptr 100010 0)])] fun v48 m48 =>
exT0 v48 <|
Tri Try.prog KK 127 0 (.loop c82_0_1) ⟨[(0, t0), (1, t1), (4, (boolA t4)), (6, (AV.ptr 100010 0)), (7, (AV.ptr 100011 0)), (8, t8), (17, (intA t17)), (18, (intA t18)), (31, t31), (32, (intA t32)), (33, (intA t33)), (34, (boolA (decide (t33 < t32)))), (46, t8), (47, (AV.fn 98 [(AV.ptr 100010 0)])), (48, (AV.tup [])), (11, (intA (1)))], m48, 200068⟩ (q82_0_1 R N0))
theorem B82_0_0_eq (t0 : AV) (t1 : AV) (t4 : Bool) (t8 : AV) (t17 : Int) (t18 : Int) (t31 : AV) (t32 : Int) (t33 : Int) (m : Mem) (R : AV → Mem → Prop) (N0 : St → Prop) (N1 : St → Prop) : W Try.prog KK 127 0 c82_0_0 (h82_0_0 t0 t1 t4 t8 t17 t18 t31 t32 t33 m) (qq82_0_0 R N0 N1) = B82_0_0 t0 t1 t4 t8 t17 t18 t31 t32 t33 m R N0 N1 := by kernel_rfl
theorem L82_0_0 (R : AV → Mem → Prop) (N0 : St → Prop) {σ : Type} (I : σ → Prop) (t0 : σ → AV) (t1 : σ → AV) (t4 : σ → Bool) (t8 : σ → AV) (t17 : σ → Int) (t18 : σ → Int) (t31 : σ → AV) (t32 : σ → Int) (t33 : σ → Int) (m : σ → Mem) (μ : σ → Nat) (step : ∀ x, I x → B82_0_0 (t0 x) (t1 x) (t4 x) (t8 x) (t17 x) (t18 x) (t31 x) (t32 x) (t33 x) (m x) R N0 (fun s' => ∃ y, I y ∧ μ y < μ x ∧ Weak KK 127 0 s' (h82_0_0 (t0 y) (t1 y) (t4 y) (t8 y) (t17 y) (t18 y) (t31 y) (t32 y) (t33 y) (m y)))) (x : σ) (hx : I x) {s : St} (hw : Weak KK 127 0 s (h82_0_0 (t0 x) (t1 x) (t4 x) (t8 x) (t17 x) (t18 x) (t31 x) (t32 x) (t33 x) (m x))) : Tri Try.prog KK 127 0 (.loop c82_0_0) s (q82_0_0 R N0) :=
  Tri.weak hw (Tri.loops fol I (fun x => h82_0_0 (t0 x) (t1 x) (t4 x) (t8 x) (t17 x) (t18 x) (t31 x) (t32 x) (t33 x) (m x)) μ (fun x hx => (B82_0_0_eq (t0 x) (t1 x) (t4 x) (t8 x) (t17 x) (t18 x) (t31 x) (t32 x) (t33 x) (m x) R N0 _).mpr (step x hx)) x hx)
noncomputable def B82_0_1 (t0 : AV) (t1 : AV) (t4 : Bool) (t8 : AV) (t11 : Int) (t17 : Int) (t18 : Int) (m : Mem) (R : AV → Mem → Prop) (N0 : St → Prop) (N1 : St → Prop) : Prop :=
opP (lenS t8) fun v49 =>
ex_i64 v49 fun z50 =>
bif (decide (t11 < z50)) then (
opP (idxS 2 t8 (intA t11)) fun v51 =>
opP (ldA (mget m) 2 v51) fun v52 =>
exA2 v52 fun c53 c54 =>
ex_i64 c53 fun z55 =>
ex_i64 c54 fun z56 =>
opP (idxS 2 t8 (intA (IntKind.wrap .i64 (t11 - (1))))) fun v57 =>
opP (ldA (mget m) 2 v57) fun v58 =>
exA2 v58 fun c59 c60 =>
ex_i64 c59 fun z61 =>
ex_i64 c60 fun z62 =>
opP (opA Try.prog (.binOp .eql 35 (.tmp 0) (.tmp 1) 35) 4 [(AV.agg [(intA z55), (intA z56)]), (AV.agg [(intA z61), (intA z62)])] (mget m) 300013) fun v63 =>
exB v63 fun b64 =>
bif b64 then (
N1 ⟨[(0, t0), (1, t1), (4, (boolA t4)), (6, (AV.ptr 100010 0)), (7, (AV.ptr 100011 0)), (8, t8), (11, (intA (IntKind.wrap .i64 (t11 + (1))))), (17, (intA t17)), (18, (intA t18)), (49, (intA t11)), (50, t8), (51, (intA z50)), (52, (boolA (decide (t11 < z50)))), (55, t8), (56, (intA t11)), (57, v51), (58, (AV.agg [(intA z55), (intA z56)])), (59, t8), (60, (intA t11)), (61, (intA (IntKind.wrap .i64 (t11 - (1))))), (62, v57), (63, (AV.agg [(intA z61), (intA z62)])), (64, (boolA b64)), (53, (intA t11)), (54, (intA (IntKind.wrap .i64 (t11 + (1)))))], m, 300017⟩) else (
opM (idxS 2 t8 (intA t11)) fun v65 d65 =>
opM (fldO 0 v65) fun v66 d66 =>
opM (ldS (look' (mpushs (mpushs m d65) d66) (topId v66 ++ ([]))) v66) fun v67 d67 =>
ex_i64 v67 fun z68 =>
opM (idxS 2 t8 (intA (IntKind.wrap .i64 (t11 - (1))))) fun v69 d69 =>
opM (fldO 0 v69) fun v70 d70 =>
opM (ldS (look' (mpushs (mpushs (mpushs (mpushs (mpushs m d65) d66) d67) d69) d70) (topId v70 ++ ([]))) v70) fun v71 d71 =>
ex_i64 v71 fun z72 =>
opM (idxS 2 t8 (intA t11)) fun v73 d73 =>
opM (fldO 1 v73) fun v74 d74 =>
opM (ldS (look' (mpushs (mpushs (mpushs (mpushs (mpushs (mpushs (mpushs (mpushs m d65) d66) d67) d69) d70) d71) d73) d74) (topId v74 ++ ([]))) v74) fun v75 d75 =>
ex_i64 v75 fun z76 =>
opM (idxS 2 t8 (intA (IntKind.wrap .i64 (t11 - (1))))) fun v77 d77 =>
opM (fldO 1 v77) fun v78 d78 =>
opM (ldS (look' (mpushs (mpushs (mpushs (mpushs (mpushs (mpushs (mpushs (mpushs (mpushs (mpushs (mpushs m d65) d66) d67) d69) d70) d71) d73) d74) d75) d77) d78) (topId v78 ++ ([]))) v78) fun v79 d79 =>
ex_i64 v79 fun z80 =>
opM (bld [(intA (0)), (intA (0))] [(0, 1), (1, 1)] [(0, (intA (IntKind.wrap .i64 (Int.tdiv (IntKind.wrap .i64 (z68 + z72)) (2))))), (1, (intA (IntKind.wrap .i64 (Int.tdiv (IntKind.wrap .i64 (z76 + z80)) (2)))))]) fun v81 d81 =>
storeW Try.prog (look' ((300041, some ⟨[(intA (0)), (intA (0))], 35⟩) :: (mpushs (mpushs (mpushs (mpushs (mpushs (mpushs (mpushs (mpushs (mpushs (mpushs (mpushs (mpushs (mpushs m d65) d66) d67) d69) d70) d71) d73) d74) d75) d77) d78) d79) d81)) (topId (AV.ptr 300041 0) ++ (topId v81 ++ ([])))) 35 (AV.ptr 300041 0) v81 fun v82 d82 =>
chk (confOk [0, 0, 3, 7, 15, 0, 0, 64, 224, 480, 992, 2047, 4095, 0, 0, 24576, 57344, 122880, 0, 0, 524288, 1835008, 3932160, 8126464, 16769024, 33546240, 67108863, 0, 268435455] [⟨[], []⟩, ⟨[], []⟩, ⟨d65, []⟩, ⟨d66, []⟩, ⟨d67, (topId v66 ++ ([]))⟩, ⟨[], []⟩, ⟨[], []⟩, ⟨[], []⟩, ⟨d69, []⟩, ⟨d70, []⟩, ⟨d71, (topId v70 ++ ([]))⟩, ⟨[], []⟩, ⟨[], []⟩, ⟨[], []⟩, ⟨[], []⟩, ⟨d73, []⟩, ⟨d74, []⟩, ⟨d75, (topId v74 ++ ([]))⟩, ⟨[], []⟩, ⟨[], []⟩, ⟨[], []⟩, ⟨d77, []⟩, ⟨d78, []⟩, ⟨d79, (topId v78 ++ ([]))⟩, ⟨[], []⟩, ⟨[], []⟩, ⟨d81, []⟩, ⟨[(300041, some ⟨[(intA (0)), (intA (0))], 35⟩)], []⟩, ⟨d82, (topId (AV.ptr 300041 0) ++ (topId v81 ++ ([])))⟩]) (opP (ldA (mget (mpushs ((300041, some ⟨[(intA (0)), (intA (0))], 35⟩) :: (mpushs (mpushs (mpushs (mpushs (mpushs (mpushs (mpushs (mpushs (mpushs (mpushs (mpushs (mpushs (mpushs m d65) d66) d67) d69) d70) d71) d73) d74) d75) d77) d78) d79) d81)) d82)) 2 (AV.ptr 300041 0)) fun v83 =>
exA2 v83 fun c84 c85 =>
ex_i64 c84 fun z86 =>
ex_i64 c85 fun z87 =>
callQ Try.prog KK.gl (mpushs ((300041, some ⟨[(intA (0)), (intA (0))], 35⟩) :: (mpushs (mpushs (mpushs (mpushs (mpushs (mpushs (mpushs (mpushs (mpushs (mpushs (mpushs (mpushs (mpushs m d65) d66) d67) d69) d70) d71) d73) d74) d75) d77) d78) d79) d81)) d82) 76 [t1, (AV.agg [(intA z86), (intA z87)])] fun v88 =>
ex_i64 v88 fun z89 =>
bif (z89 == (1)) then (
retL R (mpushs ((300041, some ⟨[(intA (0)), (intA (0))], 35⟩) :: (mpushs (mpushs (mpushs (mpushs (mpushs (mpushs (mpushs (mpushs (mpushs (mpushs (mpushs (mpushs (mpushs m d65) d66) d67) d69) d70) d71) d73) d74) d75) d77) d78) d79) d81)) d82) [some (boolA true)]) else (
bif (z89 == (0)) then (
opP (lenS t1) fun v90 =>
ex_i64 v90 fun z91 =>
Tri Try.prog KK 127 0 (.loop c82_0_1_0) ⟨[(0, t0), (1, t1), (4, (boolA t4)), (6, (AV.ptr 100010 0)), (7, (AV.ptr 100011 0)), (8, t8), (11, (intA t11)), (17, (intA t17)), (18, (intA t18)), (49, (intA t11)), (50, t8), (51, (intA z50)), (52, (boolA (decide (t11 < z50)))), (55, t8), (56, (intA t11)), (57, v51), (58, (AV.agg [(intA z55), (intA z56)])), (59, t8), (60, (intA t11)), (61, (intA (IntKind.wrap .i64 (t11 - (1))))), (62, v57), (63, (AV.agg [(intA z61), (intA z62)])), (64, (boolA b64)), (65, t8), (66, (intA t11)), (67, v65), (68, v66), (69, (intA z68)), (70, t8), (71, (intA t11)), (72, (intA (IntKind.wrap .i64 (t11 - (1))))), (73, v69), (74, v70), (75, (intA z72)), (76, (intA (IntKind.wrap .i64 (z68 + z72)))), (77, (intA (IntKind.wrap .i64 (Int.tdiv (IntKind.wrap .i64 (z68 + z72)) (2))))), (78, t8), (79, (intA t11)), (80, v73), (81, v74), (82, (intA z76)), (83, t8), (84, (intA t11)), (85, (intA (IntKind.wrap .i64 (t11 - (1))))), (86, v77), (87, v78), (88, (intA z80)), (89, (intA (IntKind.wrap .i64 (z76 + z80)))), (90, (intA (IntKind.wrap .i64 (Int.tdiv (IntKind.wrap .i64 (z76 + z80)) (2))))), (91, v81), (12, (AV.ptr 300041 0)), (92, t1), (93, (AV.agg [(intA z86), (intA z87)])), (94, (intA z89)), (96, (boolA (z89 == (1)))), (95, (boolA (z89 == (1)))), (98, (boolA (z89 == (0)))), (97, (boolA (z89 == (0)))), (99, t1), (100, (intA z91)), (101, (intA (0)))], (mpushs ((300041, some ⟨[(intA (0)), (intA (0))], 35⟩) :: (mpushs (mpushs (mpushs (mpushs (mpushs (mpushs (mpushs (mpushs (mpushs (mpushs (mpushs (mpushs (mpushs m d65) d66) d67) d69) d70) d71) d73) d74) d75) d77) d78) d79) d81)) d82), 300116⟩ (q82_0_1_0 R N0 N1)) else (
N1 ⟨[(0, t0), (1, t1), (4, (boolA t4)), (6, (AV.ptr 100010 0)), (7, (AV.ptr 100011 0)), (8, t8), (11, (intA (IntKind.wrap .i64 (t11 + (1))))), (17, (intA t17)), (18, (intA t18)), (49, (intA t11)), (50, t8), (51, (intA z50)), (52, (boolA (decide (t11 < z50)))), (55, t8), (56, (intA t11)), (57, v51), (58, (AV.agg [(intA z55), (intA z56)])), (59, t8), (60, (intA t11)), (61, (intA (IntKind.wrap .i64 (t11 - (1))))), (62, v57), (63, (AV.agg [(intA z61), (intA z62)])), (64, (boolA b64)), (65, t8), (66, (intA t11)), (67, v65), (68, v66), (69, (intA z68)), (70, t8), (71, (intA t11)), (72, (intA (IntKind.wrap .i64 (t11 - (1))))), (73, v69), (74, v70), (75, (intA z72)), (76, (intA (IntKind.wrap .i64 (z68 + z72)))), (77, (intA (IntKind.wrap .i64 (Int.tdiv (IntKind.wrap .i64 (z68 + z72)) (2))))), (78, t8), (79, (intA t11)), (80, v73), (81, v74), (82, (intA z76)), (83, t8), (84, (intA t11)), (85, (intA (IntKind.wrap .i64 (t11 - (1))))), (86, v77), (87, v78), (88, (intA z80)), (89, (intA (IntKind.wrap .i64 (z76 + z80)))), (90, (intA (IntKind.wrap .i64 (Int.tdiv (IntKind.wrap .i64 (z76 + z80)) (2))))), (91, v81), (12, (AV.ptr 300041 0)), (92, t1), (93, (AV.agg [(intA z86), (intA z87)])), (94, (intA z89)), (96, (boolA (z89 == (1)))), (95, (boolA (z89 == (1)))), (98, (boolA (z89 == (0)))), (97, (boolA (z89 == (0)))), (53, (intA t11)), (54, (intA (IntKind.wrap .i64 (t11 + (1)))))], (mpushs ((300041, some ⟨[(intA (0)), (intA (0))], 35⟩) :: (mpushs (mpushs (mpushs (mpushs (mpushs (mpushs (mpushs (mpushs (mpushs (mpushs (mpushs (mpushs (mpushs m d65) d66) d67) d69) d70) d71) d73) d74) d75) d77) d78) d79) d81)) d82), 300116⟩))))) else (
N0 ⟨[(0, t0), (1, t1), (4, (boolA t4)), (6, (AV.ptr 100010 0)), (7, (AV.ptr 100011 0)), (8, t8), (11, (intA t11)), (17, (intA t17)), (18, (intA (IntKind.wrap .i64 (t18 + (1))))), (49, (intA t11)), (50, t8), (51, (intA z50)), (52, (boolA (decide (t11 < z50)))), (126, (intA (IntKind.wrap .i64 (t18 + (1)))))], m, 300006⟩)
theorem B82_0_1_eq (t0 : AV) (t1 : AV) (t4 : Bool) (t8 : AV) (t11 : Int) (t17 : Int) (t18 : Int) (m : Mem) (R : AV → Mem → Prop) (N0 : St → Prop) (N1 : St → Prop) : W Try.prog KK 127 0 c82_0_1 (h82_0_1 t0 t1 t4 t8 t11 t17 t18 m) (qq82_0_1 R N0 N1) = B82_0_1 t0 t1 t4 t8 t11 t17 t18 m R N0 N1 := by kernel_rfl
theorem L82_0_1 (R : AV → Mem → Prop) (N0 : St → Prop) {σ : Type} (I : σ → Prop) (t0 : σ → AV) (t1 : σ → AV) (t4 : σ → Bool) (t8 : σ → AV) (t11 : σ → Int) (t17 : σ → Int) (t18 : σ → Int) (m : σ → Mem) (μ : σ → Nat) (step : ∀ x, I x → B82_0_1 (t0 x) (t1 x) (t4 x) (t8 x) (t11 x) (t17 x) (t18 x) (m x) R N0 (fun s' => ∃ y, I y ∧ μ y < μ x ∧ Weak KK 127 0 s' (h82_0_1 (t0 y) (t1 y) (t4 y) (t8 y) (t11 y) (t17 y) (t18 y) (m y)))) (x : σ) (hx : I x) {s : St} (hw : Weak KK 127 0 s (h82_0_1 (t0 x) (t1 x) (t4 x) (t8 x) (t11 x) (t17 x) (t18 x) (m x))) : Tri Try.prog KK 127 0 (.loop c82_0_1) s (q82_0_1 R N0) :=
  Tri.weak hw (Tri.loops fol I (fun x => h82_0_1 (t0 x) (t1 x) (t4 x) (t8 x) (t11 x) (t17 x) (t18 x) (m x)) μ (fun x hx => (B82_0_1_eq (t0 x) (t1 x) (t4 x) (t8 x) (t11 x) (t17 x) (t18 x) (m x) R N0 _).mpr (step x hx)) x hx)
noncomputable def B82_0_1_0 (t0 : AV) (t1 : AV) (t4 : Bool) (t8 : AV) (t11 : Int) (t17 : Int) (t18 : Int) (t100 : Int) (t101 : Int) (m : Mem) (R : AV → Mem → Prop) (N0 : St → Prop) (N1 : St → Prop) (N2 : St → Prop) : Prop :=
bif (decide (t101 < t100)) then (
opM (idxS 2 t1 (intA t101)) fun v92 d92 =>
opM (ldA (look' (mpushs m d92) (topId v92 ++ ([]))) 2 v92) fun v93 d93 =>
exA2 v93 fun c94 c95 =>
ex_i64 c94 fun z96 =>
ex_i64 c95 fun z97 =>
callF Try.prog KK.gl (mpushs (mpushs m d92) d93) 400009 72 [t1, (intA t101)] fun v98 d98 ft98 =>
exA2 v98 fun c99 c100 =>
ex_i64 c99 fun z101 =>
ex_i64 c100 fun z102 =>
storeW Try.prog (look' ((400011, some ⟨[(intA (0)), (intA (0))], 35⟩) :: (400010, some ⟨[(intA (0)), (intA (0))], 35⟩) :: (mpushs (mpushs (mpushs m d92) d93) d98)) (topId (AV.ptr 400010 0) ++ (topId (AV.agg [(intA z96), (intA z97)]) ++ ([])))) 35 (AV.ptr 400010 0) (AV.agg [(intA z96), (intA z97)]) fun v103 d103 =>
storeW Try.prog (look' (mpushs ((400011, some ⟨[(intA (0)), (intA (0))], 35⟩) :: (400010, some ⟨[(intA (0)), (intA (0))], 35⟩) :: (mpushs (mpushs (mpushs m d92) d93) d98)) d103) (topId (AV.ptr 400011 0) ++ (topId (AV.agg [(intA z101), (intA z102)]) ++ ([])))) 35 (AV.ptr 400011 0) (AV.agg [(intA z101), (intA z102)]) fun v104 d104 =>
chk (confOk [0, 0, 3, 7, 0, 0, 48, 0, 0, 511, 1023] [⟨[], []⟩, ⟨[], []⟩, ⟨d92, []⟩, ⟨d93, (topId v92 ++ ([]))⟩, ⟨[], []⟩, ⟨[], []⟩, ⟨d98, ft98⟩, ⟨[(400010, some ⟨[(intA (0)), (intA (0))], 35⟩)], []⟩, ⟨[(400011, some ⟨[(intA (0)), (intA (0))], 35⟩)], []⟩, ⟨d103, (topId (AV.ptr 400010 0) ++ (topId (AV.agg [(intA z96), (intA z97)]) ++ ([])))⟩, ⟨d104, (topId (AV.ptr 400011 0) ++ (topId (AV.agg [(intA z101), (intA z102)]) ++ ([])))⟩]) (opP (ldA (mget (mpushs (mpushs ((400011, some ⟨[(intA (0)), (intA (0))], 35⟩) :: (400010, some ⟨[(intA (0)), (intA (0))], 35⟩) :: (mpushs (mpushs (mpushs m d92) d93) d98)) d103) d104)) 2 (AV.ptr 400010 0)) fun v105 =>
exA2 v105 fun c106 c107 =>
ex_i64 c106 fun z108 =>
ex_i64 c107 fun z109 =>
opP (ldA (mget (mpushs (mpushs ((400011, some ⟨[(intA (0)), (intA (0))], 35⟩) :: (400010, some ⟨[(intA (0)), (intA (0))], 35⟩) :: (mpushs (mpushs (mpushs m d92) d93) d98)) d103) d104)) 2 (AV.ptr 400011 0)) fun v110 =>
exA2 v110 fun c111 c112 =>
ex_i64 c111 fun z113 =>
ex_i64 c112 fun z114 =>
opP (ldA (mget (mpushs (mpushs ((400011, some ⟨[(intA (0)), (intA (0))], 35⟩) :: (400010, some ⟨[(intA (0)), (intA (0))], 35⟩) :: (mpushs (mpushs (mpushs m d92) d93) d98)) d103) d104)) 2 (AV.ptr 300041 0)) fun v115 =>
exA2 v115 fun c116 c117 =>
ex_i64 c116 fun z118 =>
ex_i64 c117 fun z119 =>
callQ Try.prog KK.gl (mpushs (mpushs ((400011, some ⟨[(intA (0)), (intA (0))], 35⟩) :: (400010, some ⟨[(intA (0)), (intA (0))], 35⟩) :: (mpushs (mpushs (mpushs m d92) d93) d98)) d103) d104) 84 [(AV.agg [(intA z108), (intA z109)]), (AV.agg [(intA z113), (intA z114)]), (AV.agg [(intA z118), (intA z119)])] fun v120 =>
exB v120 fun b121 =>
bif b121 then (
opP (ldA (mget (mpushs (mpushs ((400011, some ⟨[(intA (0)), (intA (0))], 35⟩) :: (400010, some ⟨[(intA (0)), (intA (0))], 35⟩) :: (mpushs (mpushs (mpushs m d92) d93) d98)) d103) d104)) 2 (AV.ptr 100011 0)) fun v122 =>
exA2 v122 fun c123 c124 =>
ex_i64 c123 fun z125 =>
ex_i64 c124 fun z126 =>
opP (ldA (mget (mpushs (mpushs ((400011, some ⟨[(intA (0)), (intA (0))], 35⟩) :: (400010, some ⟨[(intA (0)), (intA (0))], 35⟩) :: (mpushs (mpushs (mpushs m d92) d93) d98)) d103) d104)) 2 (AV.ptr 100010 0)) fun v127 =>
exA2 v127 fun c128 c129 =>
ex_i64 c128 fun z130 =>
ex_i64 c129 fun z131 =>
callQ Try.prog KK.gl (mpushs (mpushs ((400011, some ⟨[(intA (0)), (intA (0))], 35⟩) :: (400010, some ⟨[(intA (0)), (intA (0))], 35⟩) :: (mpushs (mpushs (mpushs m d92) d93) d98)) d103) d104) 83 [(AV.agg [(intA z125), (intA z126)]), (AV.agg [(intA z130), (intA z131)])] fun v132 =>
exA2 v132 fun c133 c134 =>
ex_i64 c133 fun z135 =>
ex_i64 c134 fun z136 =>
opP (ldA (mget (mpushs (mpushs ((400011, some ⟨[(intA (0)), (intA (0))], 35⟩) :: (400010, some ⟨[(intA (0)), (intA (0))], 35⟩) :: (mpushs (mpushs (mpushs m d92) d93) d98)) d103) d104)) 2 (AV.ptr 400011 0)) fun v137 =>
exA2 v137 fun c138 c139 =>
ex_i64 c138 fun z140 =>
ex_i64 c139 fun z141 =>
opP (ldA (mget (mpushs (mpushs ((400011, some ⟨[(intA (0)), (intA (0))], 35⟩) :: (400010, some ⟨[(intA (0)), (intA (0))], 35⟩) :: (mpushs (mpushs (mpushs m d92) d93) d98)) d103) d104)) 2 (AV.ptr 400010 0)) fun v142 =>
exA2 v142 fun c143 c144 =>
ex_i64 c143 fun z145 =>
ex_i64 c144 fun z146 =>
callQ Try.prog KK.gl (mpushs (mpushs ((400011, some ⟨[(intA (0)), (intA (0))], 35⟩) :: (400010, some ⟨[(intA (0)), (intA (0))], 35⟩) :: (mpushs (mpushs (mpushs m d92) d93) d98)) d103) d104) 83 [(AV.agg [(intA z140), (intA z141)]), (AV.agg [(intA z145), (intA z146)])] fun v147 =>
exA2 v147 fun c148 c149 =>
ex_i64 c148 fun z150 =>
ex_i64 c149 fun z151 =>
callQ Try.prog KK.gl (mpushs (mpushs ((400011, some ⟨[(intA (0)), (intA (0))], 35⟩) :: (400010, some ⟨[(intA (0)), (intA (0))], 35⟩) :: (mpushs (mpushs (mpushs m d92) d93) d98)) d103) d104) 100 [(AV.agg [(intA z135), (intA z136)]), (AV.agg [(intA z150), (intA z151)])] fun v152 =>
ex_i64 v152 fun z153 =>
bif (decide (z153 > (0))) then (
retL R (mpushs (mpushs ((400011, some ⟨[(intA (0)), (intA (0))], 35⟩) :: (400010, some ⟨[(intA (0)), (intA (0))], 35⟩) :: (mpushs (mpushs (mpushs m d92) d93) d98)) d103) d104) [some (boolA true)]) else (
N2 ⟨[(0, t0), (1, t1), (4, (boolA t4)), (6, (AV.ptr 100010 0)), (7, (AV.ptr 100011 0)), (8, t8), (11, (intA t11)), (12, (AV.ptr 300041 0)), (17, (intA t17)), (18, (intA t18)), (100, (intA t100)), (101, (intA (IntKind.wrap .i64 (t101 + (1))))), (102, (boolA (decide (t101 < t100)))), (103, (intA t101)), (13, (intA t101)), (104, t1), (105, (intA t101)), (106, v92), (107, (AV.agg [(intA z96), (intA z97)])), (108, t1), (109, (intA t101)), (110, (AV.agg [(intA z101), (intA z102)])), (14, (AV.ptr 400010 0)), (15, (AV.ptr 400011 0)), (111, (AV.agg [(intA z108), (intA z109)])), (112, (AV.agg [(intA z113), (intA z114)])), (113, (AV.agg [(intA z118), (intA z119)])), (114, (boolA b121)), (115, (boolA true)), (116, (AV.agg [(intA z125), (intA z126)])), (117, (AV.agg [(intA z130), (intA z131)])), (118, (AV.agg [(intA z135), (intA z136)])), (119, (AV.agg [(intA z140), (intA z141)])), (120, (AV.agg [(intA z145), (intA z146)])), (121, (AV.agg [(intA z150), (intA z151)])), (122, (intA z153)), (123, (boolA (decide (z153 > (0))))), (124, (boolA (decide (z153 > (0))))), (125, (intA (IntKind.wrap .i64 (t101 + (1)))))], (mpushs (mpushs ((400011, some ⟨[(intA (0)), (intA (0))], 35⟩) :: (400010, some ⟨[(intA (0)), (intA (0))], 35⟩) :: (mpushs (mpushs (mpushs m d92) d93) d98)) d103) d104), 400030⟩)) else (
N2 ⟨[(0, t0), (1, t1), (4, (boolA t4)), (6, (AV.ptr 100010 0)), (7, (AV.ptr 100011 0)), (8, t8), (11, (intA t11)), (12, (AV.ptr 300041 0)), (17, (intA t17)), (18, (intA t18)), (100, (intA t100)), (101, (intA (IntKind.wrap .i64 (t101 + (1))))), (102, (boolA (decide (t101 < t100)))), (103, (intA t101)), (13, (intA t101)), (104, t1), (105, (intA t101)), (106, v92), (107, (AV.agg [(intA z96), (intA z97)])), (108, t1), (109, (intA t101)), (110, (AV.agg [(intA z101), (intA z102)])), (14, (AV.ptr 400010 0)), (15, (AV.ptr 400011 0)), (111, (AV.agg [(intA z108), (intA z109)])), (112, (AV.agg [(intA z113), (intA z114)])), (113, (AV.agg [(intA z118), (intA z119)])), (114, (boolA b121)), (115, (boolA false)), (116, (AV.tup [])), (117, (AV.tup [])), (118, (AV.tup [])), (119, (AV.tup [])), (120, (AV.tup [])), (121, (AV.tup [])), (122, (AV.tup [])), (123, (AV.tup [])), (124, (boolA false)), (125, (intA (IntKind.wrap .i64 (t101 + (1)))))], (mpushs (mpushs ((400011, some ⟨[(intA (0)), (intA (0))], 35⟩) :: (400010, some ⟨[(intA (0)), (intA (0))], 35⟩) :: (mpushs (mpushs (mpushs m d92) d93) d98)) d103) d104), 400030⟩))) else (
N1 ⟨[(0, t0), (1, t1), (4, (boolA t4)), (6, (AV.ptr 100010 0)), (7, (AV.ptr 100011 0)), (8, t8), (11, (intA (IntKind.wrap .i64 (t11 + (1))))), (12, (AV.ptr 300041 0)), (17, (intA t17)), (18, (intA t18)), (100, (intA t100)), (101, (intA t101)), (102, (boolA (decide (t101 < t100)))), (53, (intA t11)), (54, (intA (IntKind.wrap .i64 (t11 + (1)))))], m, 400004⟩)
theorem B82_0_1_0_eq (t0 : AV) (t1 : AV) (t4 : Bool) (t8 : AV) (t11 : Int) (t17 : Int) (t18 : Int) (t100 : Int) (t101 : Int) (m : Mem) (R : AV → Mem → Prop) (N0 : St → Prop) (N1 : St → Prop) (N2 : St → Prop) : W Try.prog KK 127 0 c82_0_1_0 (h82_0_1_0 t0 t1 t4 t8 t11 t17 t18 t100 t101 m) (qq82_0_1_0 R N0 N1 N2) = B82_0_1_0 t0 t1 t4 t8 t11 t17 t18 t100 t101 m R N0 N1 N2 := by kernel_rfl
theorem L82_0_1_0 (R : AV → Mem → Prop) (N0 : St → Prop) (N1 : St → Prop) {σ : Type} (I : σ → Prop) (t0 : σ → AV) (t1 : σ → AV) (t4 : σ → Bool) (t8 : σ → AV) (t11 : σ → Int) (t17 : σ → Int) (t18 : σ → Int) (t100 : σ → Int) (t101 : σ → Int) (m : σ → Mem) (μ : σ → Nat) (step : ∀ x, I x → B82_0_1_0 (t0 x) (t1 x) (t4 x) (t8 x) (t11 x) (t17 x) (t18 x) (t100 x) (t101 x) (m x) R N0 N1 (fun s' => ∃ y, I y ∧ μ y < μ x ∧ Weak KK 127 0 s' (h82_0_1_0 (t0 y) (t1 y) (t4 y) (t8 y) (t11 y) (t17 y) (t18 y) (t100 y) (t101 y) (m y)))) (x : σ) (hx : I x) {s : St} (hw : Weak KK 127 0 s (h82_0_1_0 (t0 x) (t1 x) (t4 x) (t8 x) (t11 x) (t17 x) (t18 x) (t100 x) (t101 x) (m x))) : Tri Try.prog KK 127 0 (.loop c82_0_1_0) s (q82_0_1_0 R N0 N1) :=
  Tri.weak hw (Tri.loops fol I (fun x => h82_0_1_0 (t0 x) (t1 x) (t4 x) (t8 x) (t11 x) (t17 x) (t18 x) (t100 x) (t101 x) (m x)) μ (fun x hx => (B82_0_1_0_eq (t0 x) (t1 x) (t4 x) (t8 x) (t11 x) (t17 x) (t18 x) (t100 x) (t101 x) (m x) R N0 N1 _).mpr (step x hx)) x hx)
noncomputable def F82 (a0 : AV) (a1 : AV) (R : AV → Mem → Prop) : Prop :=
opP (lenS a0) fun v0 =>
ex_i64 v0 fun z1 =>
Tri Try.prog KK 127 0 (.loop c82_0) ⟨[(0, a0), (1, a1), (4, (boolA false)), (16, a0), (17, (intA z1)), (18, (intA (0)))], [], 4⟩ (q82_0 R)
theorem F82_own (a0 : AV) (a1 : AV) (R : AV → Mem → Prop) (h : F82 a0 a1 R) : Own Try.prog KK.gl 82 [a0, a1] R := own_of_F fol Try.func82 (code := c82) (by kernel_rfl) (by kernel_rfl) (by kernel_rfl) (X := F82 a0 a1 R) (by kernel_rfl) h
/- skyway/polygon.Overlap -/
noncomputable def c69 : Code := ((Try.f69).body).getD .skip
noncomputable def q69 (R : AV → Mem → Prop) : AExit → St → Prop := retQ Try.prog Try.f69 R
noncomputable def c69_0 : Code := loopB c69 0
noncomputable def q69_0 (R : AV → Mem → Prop) : AExit → St → Prop := contW Try.prog KK 64 0 c69 0 (q69 R)
noncomputable def qq69_0 (R : AV → Mem → Prop) (N0 : St → Prop) : AExit → St → Prop := thenQ N0 (q69_0 R)
def h69_0 (t0 : AV) (t1 : AV) (t4 : Bool) (t5 : Int) (t13 : AV) (t14 : Int) (t15 : Int) (m : Mem) : St := ⟨[(0, t0), (1, t1), (4, (boolA t4)), (5, (intA t5)), (13, t13), (14, (intA t14)), (15, (intA t15))], m, 100000⟩
noncomputable def c69_1 : Code := loopB c69 1
noncomputable def q69_1 (R : AV → Mem → Prop) : AExit → St → Prop := contW Try.prog KK 64 0 c69 1 (q69 R)
noncomputable def qq69_1 (R : AV → Mem → Prop) (N0 : St → Prop) : AExit → St → Prop := thenQ N0 (q69_1 R)
def h69_1 (t0 : AV) (t1 : AV) (t4 : Bool) (t5 : Int) (t26 : Int) (t27 : Int) (m : Mem) : St := ⟨[(0, t0), (1, t1), (4, (boolA t4)), (5, (intA t5)), (26, (intA t26)), (27, (intA t27))], m, 200000⟩
noncomputable def c69_1_0 : Code := loopB c69_1 0
noncomputable def q69_1_0 (R : AV → Mem → Prop) (N0 : St → Prop) : AExit → St → Prop := contW Try.prog KK 64 0 c69_1 0 (qq69_1 R N0)
noncomputable def qq69_1_0 (R : AV → Mem → Prop) (N0 : St → Prop) (N1 : St → Prop) : AExit → St → Prop := thenQ N1 (q69_1_0 R N0)
def h69_1_0 (t0 : AV) (t1 : AV) (t4 : Bool) (t5 : Int) (t9 : Int) (t26 : Int) (t27 : Int) (t31 : Int) (t32 : Int) (m : Mem) : St := ⟨[(0, t0), (1, t1), (4, (boolA t4)), (5, (intA t5)), (9, (intA t9)), (26, (intA t26)), (27, (intA t27)), (31, (intA t31)), (32, (intA t32))], m, 300000⟩
noncomputable def B69_0 (t0 : AV) (t1 : AV) (t4 : Bool) (t5 : Int) (t13 : AV) (t14 : Int) (t15 : Int) (m : Mem) (R : AV → Mem → Prop) (N0 : St → Prop) : Prop :=
bif (decide (t15 < t14)) then (
opP (idxS 1 t13 (intA t15)) fun v3 =>
opP (ldS (mget m) v3) fun v4 =>
callQ Try.prog KK.gl m 52 [v4] fun v5 =>
ex_i64 v5 fun z6 =>
bif (z6 != (0)) then (
retL R m [some (boolA false), some (intA z6)]) else (
N0 ⟨[(0, t0), (1, t1), (4, (boolA t4)), (5, (intA t5)), (13, t13), (14, (intA t14)), (15, (intA (IntKind.wrap .i64 (t15 + (1))))), (16, (boolA (decide (t15 < t14)))), (17, v3), (18, v4), (7, v4), (19, v4), (20, (intA z6)), (8, (intA z6)), (21, (intA z6)), (22, (boolA (z6 != (0)))), (24, (intA (IntKind.wrap .i64 (t15 + (1)))))], m, 100074⟩)) else (
opP (lenS t0) fun v7 =>
ex_i64 v7 fun z8 =>
Tri Try.prog KK 64 0 (.loop c69_1) ⟨[(0, t0), (1, t1), (4, (boolA t4)), (5, (intA t5)), (13, t13), (14, (intA t14)), (15, (intA t15)), (16, (boolA (decide (t15 < t14)))), (25, t0), (26, (intA z8)), (27, (intA (0)))], m, 100004⟩ (q69_1 R))
theorem B69_0_eq (t0 : AV) (t1 : AV) (t4 : Bool) (t5 : Int) (t13 : AV) (t14 : Int) (t15 : Int) (m : Mem) (R : AV → Mem → Prop) (N0 : St → Prop) : W Try.prog KK 64 0 c69_0 (h69_0 t0 t1 t4 t5 t13 t14 t15 m) (qq69_0 R N0) = B69_0 t0 t1 t4 t5 t13 t14 t15 m R N0 := by kernel_rfl
theorem L69_0 (R : AV → Mem → Prop) {σ : Type} (I : σ → Prop) (t0 : σ → AV) (t1 : σ → AV) (t4 : σ → Bool) (t5 : σ → Int) (t13 : σ → AV) (t14 : σ → Int) (t15 : σ → Int) (m : σ → Mem) (μ : σ → Nat) (step : ∀ x, I x → B69_0 (t0 x) (t1 x) (t4 x) (t5 x) (t13 x) (t14 x) (t15 x) (m x) R (fun s' => ∃ y, I y ∧ μ y < μ x ∧ Weak KK 64 0 s' (h69_0 (t0 y) (t1 y) (t4 y) (t5 y) (t13 y) (t14 y) (t15 y) (m y)))) (x : σ) (hx : I x) {s : St} (hw : Weak KK 64 0 s (h69_0 (t0 x) (t1 x) (t4 x) (t5 x) (t13 x) (t14 x) (t15 x) (m x))) : Tri Try.prog KK 64 0 (.loop c69_0) s (q69_0 R) :=
  Tri.weak hw (Tri.loops fol I (fun x => h69_0 (t0 x) (t1 x) (t4 x) (t5 x) (t13 x) (t14 x) (t15 x) (m x)) μ (fun x hx => (B69_0_eq (t0 x) (t1 x) (t4 x) (t5 x) (t13 x) (t14 x) (t15 x) (m x) R _).mpr (step x hx)) x hx)
noncomputable def B69_1 (t0 : AV) (t1 : AV) (t4 : Bool) (t5 : Int) (t26 : Int) (t27 : Int) (m : Mem) (R : AV → Mem → Prop) (N0 : St → Prop) : Prop :=
bif (decide (t27 < t26)) then (
opP (lenS t1) fun v9 =>
ex_i64 v9 fun z10 =>
Tri Try.prog KK 64 0 (.loop c69_1_0) ⟨[(0, t0), (1, t1), (4, (boolA t4)), (5, (intA t5)), (26, (intA t26)), (27, (intA t27)), (28, (boolA (decide (t27 < t26)))), (29, (intA t27)), (9, (intA t27)), (30, t1), (31, (intA z10)), (32, (intA (0)))], m, 200006⟩ (q69_1_0 R N0)) else (
callQ Try.prog KK.gl m 81 [t0] fun v35 =>
callQ Try.prog KK.gl m 81 [t1] fun v36 =>
callQ Try.prog KK.gl m 82 [v35, v36] fun v37 =>
exB v37 fun b38 =>
bif b38 then (
retL R m [some (boolA true), some (intA (0))]) else (
callQ Try.prog KK.gl m 82 [v36, v35] fun v39 =>
exB v39 fun b40 =>
retL R m [some (boolA b40), some (intA (0))]))
theorem B69_1_eq (t0 : AV) (t1 : AV) (t4 : Bool) (t5 : Int) (t26 : Int) (t27 : Int) (m : Mem) (R : AV → Mem → Prop) (N0 : St → Prop) : W Try.prog KK 64 0 c69_1 (h69_1 t0 t1 t4 t5 t26 t27 m) (qq69_1 R N0) = B69_1 t0 t1 t4 t5 t26 t27 m R N0 := by kernel_rfl
theorem L69_1 (R : AV → Mem → Prop) {σ : Type} (I : σ → Prop) (t0 : σ → AV) (t1 : σ → AV) (t4 : σ → Bool) (t5 : σ → Int) (t26 : σ → Int) (t27 : σ → Int) (m : σ → Mem) (μ : σ → Nat) (step : ∀ x, I x → B69_1 (t0 x) (t1 x) (t4 x) (t5 x) (t26 x) (t27 x) (m x) R (fun s' => ∃ y, I y ∧ μ y < μ x ∧ Weak KK 64 0 s' (h69_1 (t0 y) (t1 y) (t4 y) (t5 y) (t26 y) (t27 y) (m y)))) (x : σ) (hx : I x) {s : St} (hw : Weak KK 64 0 s (h69_1 (t0 x) (t1 x) (t4 x) (t5 x) (t26 x) (t27 x) (m x))) : Tri Try.prog KK 64 0 (.loop c69_1) s (q69_1 R) :=
  Tri.weak hw (Tri.loops fol I (fun x => h69_1 (t0 x) (t1 x) (t4 x) (t5 x) (t26 x) (t27 x) (m x)) μ (fun x hx => (B69_1_eq (t0 x) (t1 x) (t4 x) (t5 x) (t26 x) (t27 x) (m x) R _).mpr (step x hx)) x hx)
noncomputable def B69_1_0 (t0 : AV) (t1 : AV) (t4 : Bool) (t5 : Int) (t9 : Int) (t26 : Int) (t27 : Int) (t31 : Int) (t32 : Int) (m : Mem) (R : AV → Mem → Prop) (N0 : St → Prop) (N1 : St → Prop) : Prop :=
bif (decide (t32 < t31)) then (
opP (idxS 2 t0 (intA t9)) fun v11 =>
opP (ldA (mget m) 2 v11) fun v12 =>
exA2 v12 fun c13 c14 =>
ex_i64 c13 fun z15 =>
ex_i64 c14 fun z16 =>
callQ Try.prog KK.gl m 72 [t0, (intA t9)] fun v17 =>
exA2 v17 fun c18 c19 =>
ex_i64 c18 fun z20 =>
ex_i64 c19 fun z21 =>
opP (idxS 2 t1 (intA t32)) fun v22 =>
opP (ldA (mget m) 2 v22) fun v23 =>
exA2 v23 fun c24 c25 =>
ex_i64 c24 fun z26 =>
ex_i64 c25 fun z27 =>
callQ Try.prog KK.gl m 72 [t1, (intA t32)] fun v28 =>
exA2 v28 fun c29 c30 =>
ex_i64 c29 fun z31 =>
ex_i64 c30 fun z32 =>
callQ Try.prog KK.gl m 80 [(AV.agg [(intA z15), (intA z16)]), (AV.agg [(intA z20), (intA z21)]), (AV.agg [(intA z26), (intA z27)]), (AV.agg [(intA z31), (intA z32)])] fun v33 =>
exB v33 fun b34 =>
bif b34 then (
retL R m [some (boolA true), some (intA (0))]) else (
N1 ⟨[(0, t0), (1, t1), (4, (boolA t4)), (5, (intA t5)), (9, (intA t9)), (26, (intA t26)), (27, (intA t27)), (31, (intA t31)), (32, (intA (IntKind.wrap .i64 (t32 + (1))))), (33, (boolA (decide (t32 < t31)))), (34, (intA t32)), (10, (intA t32)), (35, t0), (36, (intA t9)), (37, v11), (38, (AV.agg [(intA z15), (intA z16)])), (39, t0), (40, (intA t9)), (41, (AV.agg [(intA z20), (intA z21)])), (42, t1), (43, (intA t32)), (44, v22), (45, (AV.agg [(intA z26), (intA z27)])), (46, t1), (47, (intA t32)), (48, (AV.agg [(intA z31), (intA z32)])), (49, (boolA b34)), (50, (intA (IntKind.wrap .i64 (t32 + (1)))))], m, 300020⟩)) else (
N0 ⟨[(0, t0), (1, t1), (4, (boolA t4)), (5, (intA t5)), (9, (intA t9)), (26, (intA t26)), (27, (intA (IntKind.wrap .i64 (t27 + (1))))), (31, (intA t31)), (32, (intA t32)), (33, (boolA (decide (t32 < t31)))), (51, (intA (IntKind.wrap .i64 (t27 + (1)))))], m, 300003⟩)
theorem B69_1_0_eq (t0 : AV) (t1 : AV) (t4 : Bool) (t5 : Int) (t9 : Int) (t26 : Int) (t27 : Int) (t31 : Int) (t32 : Int) (m : Mem) (R : AV → Mem → Prop) (N0 : St → Prop) (N1 : St → Prop) : W Try.prog KK 64 0 c69_1_0 (h69_1_0 t0 t1 t4 t5 t9 t26 t27 t31 t32 m) (qq69_1_0 R N0 N1) = B69_1_0 t0 t1 t4 t5 t9 t26 t27 t31 t32 m R N0 N1 := by kernel_rfl
theorem L69_1_0 (R : AV → Mem → Prop) (N0 : St → Prop) {σ : Type} (I : σ → Prop) (t0 : σ → AV) (t1 : σ → AV) (t4 : σ → Bool) (t5 : σ → Int) (t9 : σ → Int) (t26 : σ → Int) (t27 : σ → Int) (t31 : σ → Int) (t32 : σ → Int) (m : σ → Mem) (μ : σ → Nat) (step : ∀ x, I x → B69_1_0 (t0 x) (t1 x) (t4 x) (t5 x) (t9 x) (t26 x) (t27 x) (t31 x) (t32 x) (m x) R N0 (fun s' => ∃ y, I y ∧ μ y < μ x ∧ Weak KK 64 0 s' (h69_1_0 (t0 y) (t1 y) (t4 y) (t5 y) (t9 y) (t26 y) (t27 y) (t31 y) (t32 y) (m y)))) (x : σ) (hx : I x) {s : St} (hw : Weak KK 64 0 s (h69_1_0 (t0 x) (t1 x) (t4 x) (t5 x) (t9 x) (t26 x) (t27 x) (t31 x) (t32 x) (m x))) : Tri Try.prog KK 64 0 (.loop c69_1_0) s (q69_1_0 R N0) :=
  Tri.weak hw (Tri.loops fol I (fun x => h69_1_0 (t0 x) (t1 x) (t4 x) (t5 x) (t9 x) (t26 x) (t27 x) (t31 x) (t32 x) (m x)) μ (fun x hx => (B69_1_0_eq (t0 x) (t1 x) (t4 x) (t5 x) (t9 x) (t26 x) (t27 x) (t31 x) (t32 x) (m x) R N0 _).mpr (step x hx)) x hx)
noncomputable def F69 (a0 : AV) (a1 : AV) (R : AV → Mem → Prop) : Prop :=
opN (bsl 4 74 1 2 [AV.nils] [(0, a0), (1, a1)]) [] fun v0 m0 =>
opP (lenS v0) fun v1 =>
ex_i64 v1 fun z2 =>
Tri Try.prog KK 64 0 (.loop c69_0) ⟨[(0, a0), (1, a1), (4, (boolA false)), (5, (intA (0))), (11, a0), (12, a1), (13, v0), (14, (intA z2)), (15, (intA (0)))], m0, 7⟩ (q69_0 R)
theorem F69_own (a0 : AV) (a1 : AV) (R : AV → Mem → Prop) (h : F69 a0 a1 R) : Own Try.prog KK.gl 69 [a0, a1] R := own_of_F fol Try.func69 (code := c69) (by kernel_rfl) (by kernel_rfl) (by kernel_rfl) (X := F69 a0 a1 R) (by kernel_rfl) h
/- skyway/volume.Overlap -/
noncomputable def c49 : Code := ((Try.f49).body).getD .skip
noncomputable def q49 (R : AV → Mem → Prop) : AExit → St → Prop := retQ Try.prog Try.f49 R
noncomputable def c49_0 : Code := loopB c49 0
noncomputable def q49_0 (R : AV → Mem → Prop) : AExit → St → Prop := contW Try.prog KK 52 0 c49 0 (q49 R)
noncomputable def qq49_0 (R : AV → Mem → Prop) (N0 : St → Prop) : AExit → St → Prop := thenQ N0 (q49_0 R)
def h49_0 (t4 : Bool) (t5 : Int) (t13 : AV) (t14 : Int) (t15 : Int) (m : Mem) : St := ⟨[(2, (AV.ptr 0 0)), (3, (AV.ptr 1 0)), (4, (boolA t4)), (5, (intA t5)), (13, t13), (14, (intA t14)), (15, (intA t15))], m, 100000⟩
noncomputable def B49_0 (t4 : Bool) (t5 : Int) (t13 : AV) (t14 : Int) (t15 : Int) (m : Mem) (R : AV → Mem → Prop) (N0 : St → Prop) : Prop :=
bif (decide (t15 < t14)) then (
opP (idxS 3 t13 (intA t15)) fun v3 =>
opP (ldA (mget m) 3 v3) fun v4 =>
exA3 v4 fun c5 c6 c7 =>
ex_i64 c6 fun z8 =>
ex_i64 c7 fun z9 =>
chk (isCell c5) <| callQ Try.prog KK.gl ((100003, some ⟨[c5, (intA z8), (intA z9)], 76⟩) :: (100003, some ⟨[AV.nils, (intA (0)), (intA (0))], 76⟩) :: m) 46 [(AV.agg [c5, (intA z8), (intA z9)])] fun v10 =>
ex_i64 v10 fun z11 =>
bif (z11 != (0)) then (
retL R ((100003, some ⟨[c5, (intA z8), (intA z9)], 76⟩) :: (100003, some ⟨[AV.nils, (intA (0)), (intA (0))], 76⟩) :: m) [some (boolA false), some (intA z11)]) else (
N0 ⟨[(2, (AV.ptr 0 0)), (3, (AV.ptr 1 0)), (4, (boolA t4)), (5, (intA t5)), (13, t13), (14, (intA t14)), (15, (intA (IntKind.wrap .i64 (t15 + (1))))), (16, (boolA (decide (t15 < t14)))), (17, v3), (18, (AV.agg [c5, (intA z8), (intA z9)])), (7, (AV.ptr 100003 0)), (19, (AV.agg [c5, (intA z8), (intA z9)])), (20, (intA z11)), (8, (intA z11)), (21, (intA z11)), (22, (boolA (z11 != (0)))), (24, (intA (IntKind.wrap .i64 (t15 + (1)))))], ((100003, some ⟨[c5, (intA z8), (intA z9)], 76⟩) :: (100003, some ⟨[AV.nils, (intA (0)), (intA (0))], 76⟩) :: m), 100075⟩)) else (
opP (ldS (mget m) (AV.ptr 0 0)) fun v12 =>
opP (ldS (mget m) (AV.ptr 1 0)) fun v13 =>
callQ Try.prog KK.gl m 69 [v12, v13] fun v14 =>
exT2 v14 fun c15 c16 =>
exB c15 fun b17 =>
ex_i64 c16 fun z18 =>
bif (z18 == (0)) then (
bif b17 then (
opP (ldS (mget m) (AV.ptr 0 1)) fun v19 =>
ex_i64 v19 fun z20 =>
opP (ldS (mget m) (AV.ptr 1 1)) fun v21 =>
ex_i64 v21 fun z22 =>
opP (opA Try.prog (.call ⟨.builtin .max, #[.tmp 0, .tmp 1], #[3, 3]⟩) 3 [(intA z20), (intA z22)] (mget m) 100084) fun v23 =>
ex_i64 v23 fun z24 =>
opP (ldS (mget m) (AV.ptr 0 2)) fun v25 =>
ex_i64 v25 fun z26 =>
opP (ldS (mget m) (AV.ptr 1 2)) fun v27 =>
ex_i64 v27 fun z28 =>
opP (opA Try.prog (.call ⟨.builtin .min, #[.tmp 0, .tmp 1], #[3, 3]⟩) 3 [(intA z26), (intA z28)] (mget m) 100089) fun v29 =>
ex_i64 v29 fun z30 =>
retL R m [some (boolA (decide (z24 < z30))), some (intA z18)]) else (
retL R m [some (boolA false), some (intA z18)])) else (
retL R m [some (boolA false), some (intA z18)]))
theorem B49_0_eq (t4 : Bool) (t5 : Int) (t13 : AV) (t14 : Int) (t15 : Int) (m : Mem) (R : AV → Mem → Prop) (N0 : St → Prop) : W Try.prog KK 52 0 c49_0 (h49_0 t4 t5 t13 t14 t15 m) (qq49_0 R N0) = B49_0 t4 t5 t13 t14 t15 m R N0 := by kernel_rfl
theorem L49_0 (R : AV → Mem → Prop) {σ : Type} (I : σ → Prop) (t4 : σ → Bool) (t5 : σ → Int) (t13 : σ → AV) (t14 : σ → Int) (t15 : σ → Int) (m : σ → Mem) (μ : σ → Nat) (step : ∀ x, I x → B49_0 (t4 x) (t5 x) (t13 x) (t14 x) (t15 x) (m x) R (fun s' => ∃ y, I y ∧ μ y < μ x ∧ Weak KK 52 0 s' (h49_0 (t4 y) (t5 y) (t13 y) (t14 y) (t15 y) (m y)))) (x : σ) (hx : I x) {s : St} (hw : Weak KK 52 0 s (h49_0 (t4 x) (t5 x) (t13 x) (t14 x) (t15 x) (m x))) : Tri Try.prog KK 52 0 (.loop c49_0) s (q49_0 R) :=
  Tri.weak hw (Tri.loops fol I (fun x => h49_0 (t4 x) (t5 x) (t13 x) (t14 x) (t15 x) (m x)) μ (fun x hx => (B49_0_eq (t4 x) (t5 x) (t13 x) (t14 x) (t15 x) (m x) R _).mpr (step x hx)) x hx)
noncomputable def F49 (a0_0 : AV) (a0_1 : Int) (a0_2 : Int) (a1_0 : AV) (a1_1 : Int) (a1_2 : Int) (R : AV → Mem → Prop) : Prop :=
chk (isCell a0_0) <| chk (isCell a1_0) <| opN (bsl 6 76 3 2 [AV.nils, (intA (0)), (intA (0))] [(0, (AV.agg [a0_0, (intA a0_1), (intA a0_2)])), (1, (AV.agg [a1_0, (intA a1_1), (intA a1_2)]))]) ((1, some ⟨[a1_0, (intA a1_1), (intA a1_2)], 76⟩) :: (0, some ⟨[a0_0, (intA a0_1), (intA a0_2)], 76⟩) :: []) fun v0 m0 =>
opP (lenS v0) fun v1 =>
ex_i64 v1 fun z2 =>
Tri Try.prog KK 52 0 (.loop c49_0) ⟨[(0, (AV.agg [a0_0, (intA a0_1), (intA a0_2)])), (1, (AV.agg [a1_0, (intA a1_1), (intA a1_2)])), (2, (AV.ptr 0 0)), (3, (AV.ptr 1 0)), (4, (boolA false)), (5, (intA (0))), (11, (AV.agg [a0_0, (intA a0_1), (intA a0_2)])), (12, (AV.agg [a1_0, (intA a1_1), (intA a1_2)])), (13, v0), (14, (intA z2)), (15, (intA (0)))], m0, 9⟩ (q49_0 R)
theorem F49_own (a0_0 : AV) (a0_1 : Int) (a0_2 : Int) (a1_0 : AV) (a1_1 : Int) (a1_2 : Int) (R : AV → Mem → Prop) (h : F49 a0_0 a0_1 a0_2 a1_0 a1_1 a1_2 R) : Own Try.prog KK.gl 49 [(AV.agg [a0_0, (intA a0_1), (intA a0_2)]), (AV.agg [a1_0, (intA a1_1), (intA a1_2)])] R := own_of_F fol Try.func49 (code := c49) (by kernel_rfl) (by kernel_rfl) (by kernel_rfl) (X := F49 a0_0 a0_1 a0_2 a1_0 a1_1 a1_2 R) (by kernel_rfl) h
/- skyway/sector.Check -/
noncomputable def c24 : Code := ((Try.f24).body).getD .skip
noncomputable def q24 (R : AV → Mem → Prop) : AExit → St → Prop := retQ Try.prog Try.f24 R
noncomputable def c24_0 : Code := loopB c24 0
noncomputable def q24_0 (R : AV → Mem → Prop) : AExit → St → Prop := contW Try.prog KK 87 0 c24 0 (q24 R)
noncomputable def qq24_0 (R : AV → Mem → Prop) (N0 : St → Prop) : AExit → St → Prop := thenQ N0 (q24_0 R)
def h24_0 (t0 : AV) (t2 : Int) (t3 : AV) (t18 : AV) (t19 : Int) (t20 : Int) (m : Mem) : St := ⟨[(0, t0), (2, (intA t2)), (3, t3), (18, t18), (19, (intA t19)), (20, (intA t20))], m, 100000⟩
noncomputable def c24_0_0 : Code := loopB c24_0 0
noncomputable def q24_0_0 (R : AV → Mem → Prop) (N0 : St → Prop) : AExit → St → Prop := contW Try.prog KK 87 0 c24_0 0 (qq24_0 R N0)
noncomputable def qq24_0_0 (R : AV → Mem → Prop) (N0 : St → Prop) (N1 : St → Prop) : AExit → St → Prop := thenQ N1 (q24_0_0 R N0)
def h24_0_0 (t0 : AV) (t2 : Int) (t3 : AV) (t4 : Int) (t18 : AV) (t19 : Int) (t20 : Int) (t41 : AV) (t42 : Int) (t43 : Int) (b100004_0 : ByteArray) (b100004_1 : AV) (m : Mem) : St := ⟨[(0, t0), (2, (intA t2)), (3, t3), (4, (intA t4)), (5, (AV.ptr 100004 0)), (18, t18), (19, (intA t19)), (20, (intA t20)), (41, t41), (42, (intA t42)), (43, (intA t43))], ((100004, some ⟨[(AV.sc (.string b100004_0)), b100004_1], 51⟩) :: m), 200000⟩
noncomputable def c24_1 : Code := loopB c24 1
noncomputable def q24_1 (R : AV → Mem → Prop) : AExit → St → Prop := contW Try.prog KK 87 0 c24 1 (q24 R)
noncomputable def qq24_1 (R : AV → Mem → Prop) (N0 : St → Prop) : AExit → St → Prop := thenQ N0 (q24_1 R)
def h24_1 (t2 : Int) (t3 : AV) (t63 : AV) (t64 : Int) (t65 : Int) (m : Mem) : St := ⟨[(2, (intA t2)), (3, t3), (63, t63), (64, (intA t64)), (65, (intA t65))], m, 200000⟩
noncomputable def c24_1_0 : Code := loopB c24_1 0
noncomputable def q24_1_0 (R : AV → Mem → Prop) (N0 : St → Prop) : AExit → St → Prop := contW Try.prog KK 87 0 c24_1 0 (qq24_1 R N0)
noncomputable def qq24_1_0 (R : AV → Mem → Prop) (N0 : St → Prop) (N1 : St → Prop) : AExit → St → Prop := thenQ N1 (q24_1_0 R N0)
def h24_1_0 (t2 : Int) (t3 : AV) (t63 : AV) (t64 : Int) (t65 : Int) (t72 : AV) (t73 : Int) (t74 : Int) (b200004_0 : AV) (b200004_1 : Int) (b200004_2 : Int) (m : Mem) : St := ⟨[(2, (intA t2)), (3, t3), (10, (AV.ptr 200004 0)), (63, t63), (64, (intA t64)), (65, (intA t65)), (72, t72), (73, (intA t73)), (74, (intA t74))], ((200004, some ⟨[b200004_0, (intA b200004_1), (intA b200004_2)], 76⟩) :: m), 300000⟩
noncomputable def B24_0 (t0 : AV) (t2 : Int) (t3 : AV) (t18 : AV) (t19 : Int) (t20 : Int) (m : Mem) (R : AV → Mem → Prop) (N0 : St → Prop) : Prop :=
bif (decide (t20 < t19)) then (
opP (idxS 2 t18 (intA t20)) fun v4 =>
opP (ldA (mget m) 2 v4) fun v5 =>
exA2 v5 fun c6 c7 =>
exStr c6 fun s8 =>
chk (isCell c7) <| callQ Try.prog KK.gl ((100004, some ⟨[(AV.sc (.string s8)), c7], 51⟩) :: (100004, some ⟨[(AV.sc (.string ⟨#[]⟩)), AV.nils], 51⟩) :: m) 26 [(AV.sc (.string s8))] fun v9 =>
exB v9 fun b10 =>
bif (!b10) then (
retL R ((100004, some ⟨[(AV.sc (.string s8)), c7], 51⟩) :: (100004, some ⟨[(AV.sc (.string ⟨#[]⟩)), AV.nils], 51⟩) :: m) [some (intA (3))]) else (
opP (lenS c7) fun v11 =>
ex_i64 v11 fun z12 =>
bif (z12 == (0)) then (
retL R ((100004, some ⟨[(AV.sc (.string s8)), c7], 51⟩) :: (100004, some ⟨[(AV.sc (.string ⟨#[]⟩)), AV.nils], 51⟩) :: m) [some (intA (8))]) else (
opP (lenS c7) fun v13 =>
ex_i64 v13 fun z14 =>
bif (decide (z14 > (4))) then (
retL R ((100004, some ⟨[(AV.sc (.string s8)), c7], 51⟩) :: (100004, some ⟨[(AV.sc (.string ⟨#[]⟩)), AV.nils], 51⟩) :: m) [some (intA (2))]) else (
opP (lenS c7) fun v15 =>
ex_i64 v15 fun z16 =>
Tri Try.prog KK 87 0 (.loop c24_0_0) ⟨[(0, t0), (2, (intA t2)), (3, t3), (18, t18), (19, (intA t19)), (20, (intA t20)), (21, (boolA (decide (t20 < t19)))), (22, (intA t20)), (23, v4), (24, (AV.agg [(AV.sc (.string s8)), c7])), (5, (AV.ptr 100004 0)), (4, (intA t20)), (26, (AV.ptr 100004 0)), (27, (AV.sc (.string s8))), (28, (boolA b10)), (29, (boolA (!b10))), (25, (boolA (!b10))), (31, (AV.ptr 100004 1)), (32, c7), (33, (intA z12)), (34, (boolA (z12 == (0)))), (30, (boolA (z12 == (0)))), (36, (AV.ptr 100004 1)), (37, c7), (38, (intA z14)), (39, (boolA (decide (z14 > (4))))), (35, (boolA (decide (z14 > (4))))), (40, (AV.ptr 100004 1)), (41, c7), (42, (intA z16)), (43, (intA (0)))], ((100004, some ⟨[(AV.sc (.string s8)), c7], 51⟩) :: (100004, some ⟨[(AV.sc (.string ⟨#[]⟩)), AV.nils], 51⟩) :: m), 100089⟩ (q24_0_0 R N0))))) else (
opP (lenS t3) fun v30 =>
ex_i64 v30 fun z31 =>
Tri Try.prog KK 87 0 (.loop c24_1) ⟨[(0, t0), (2, (intA t2)), (3, t3), (18, t18), (19, (intA t19)), (20, (intA t20)), (21, (boolA (decide (t20 < t19)))), (63, t3), (64, (intA z31)), (65, (intA (0)))], m, 100004⟩ (q24_1 R))
theorem B24_0_eq (t0 : AV) (t2 : Int) (t3 : AV) (t18 : AV) (t19 : Int) (t20 : Int) (m : Mem) (R : AV → Mem → Prop) (N0 : St → Prop) : W Try.prog KK 87 0 c24_0 (h24_0 t0 t2 t3 t18 t19 t20 m) (qq24_0 R N0) = B24_0 t0 t2 t3 t18 t19 t20 m R N0 := by kernel_rfl
theorem L24_0 (R : AV → Mem → Prop) {σ : Type} (I : σ → Prop) (t0 : σ → AV) (t2 : σ → Int) (t3 : σ → AV) (t18 : σ → AV) (t19 : σ → Int) (t20 : σ → Int) (m : σ → Mem) (μ : σ → Nat) (step : ∀ x, I x → B24_0 (t0 x) (t2 x) (t3 x) (t18 x) (t19 x) (t20 x) (m x) R (fun s' => ∃ y, I y ∧ μ y < μ x ∧ Weak KK 87 0 s' (h24_0 (t0 y) (t2 y) (t3 y) (t18 y) (t19 y) (t20 y) (m y)))) (x : σ) (hx : I x) {s : St} (hw : Weak KK 87 0 s (h24_0 (t0 x) (t2 x) (t3 x) (t18 x) (t19 x) (t20 x) (m x))) : Tri Try.prog KK 87 0 (.loop c24_0) s (q24_0 R) :=
  Tri.weak hw (Tri.loops fol I (fun x => h24_0 (t0 x) (t2 x) (t3 x) (t18 x) (t19 x) (t20 x) (m x)) μ (fun x hx => (B24_0_eq (t0 x) (t2 x) (t3 x) (t18 x) (t19 x) (t20 x) (m x) R _).mpr (step x hx)) x hx)
noncomputable def B24_0_0 (t0 : AV) (t2 : Int) (t3 : AV) (t4 : Int) (t18 : AV) (t19 : Int) (t20 : Int) (t41 : AV) (t42 : Int) (t43 : Int) (b100004_0 : ByteArray) (b100004_1 : AV) (m : Mem) (R : AV → Mem → Prop) (N0 : St → Prop) (N1 : St → Prop) : Prop :=
bif (decide (t43 < t42)) then (
opP (idxS 3 t41 (intA t43)) fun v17 =>
opP (ldA (mget ((100004, some ⟨[(AV.sc (.string b100004_0)), b100004_1], 51⟩) :: m)) 3 v17) fun v18 =>
exA3 v18 fun c19 c20 c21 =>
ex_i64 c20 fun z22 =>
ex_i64 c21 fun z23 =>
chk (isCell c19) <| callQ Try.prog KK.gl ((200003, some ⟨[c19, (intA z22), (intA z23)], 76⟩) :: (200003, some ⟨[AV.nils, (intA (0)), (intA (0))], 76⟩) :: (100004, some ⟨[(AV.sc (.string b100004_0)), b100004_1], 51⟩) :: m) 46 [(AV.agg [c19, (intA z22), (intA z23)])] fun v24 =>
ex_i64 v24 fun z25 =>
bif (z25 != (0)) then (
retL R ((200003, some ⟨[c19, (intA z22), (intA z23)], 76⟩) :: (200003, some ⟨[AV.nils, (intA (0)), (intA (0))], 76⟩) :: (100004, some ⟨[(AV.sc (.string b100004_0)), b100004_1], 51⟩) :: m) [some (intA z25)]) else (
N1 ⟨[(0, t0), (2, (intA t2)), (3, t3), (4, (intA t4)), (5, (AV.ptr 100004 0)), (18, t18), (19, (intA t19)), (20, (intA t20)), (41, t41), (42, (intA t42)), (43, (intA (IntKind.wrap .i64 (t43 + (1))))), (44, (boolA (decide (t43 < t42)))), (45, v17), (46, (AV.agg [c19, (intA z22), (intA z23)])), (7, (AV.ptr 200003 0)), (47, (AV.agg [c19, (intA z22), (intA z23)])), (48, (intA z25)), (8, (intA z25)), (49, (intA z25)), (50, (boolA (z25 != (0)))), (52, (intA (IntKind.wrap .i64 (t43 + (1)))))], ((200003, some ⟨[c19, (intA z22), (intA z23)], 76⟩) :: (200003, some ⟨[AV.nils, (intA (0)), (intA (0))], 76⟩) :: (100004, some ⟨[(AV.sc (.string b100004_0)), b100004_1], 51⟩) :: m), 200075⟩)) else (
opP (opA Try.prog (.slice 22 (.tmp 0) none (some (.tmp 1)) none) 22 [t0, (intA t4)] (mget ((100004, some ⟨[(AV.sc (.string b100004_0)), b100004_1], 51⟩) :: m)) 200003) fun v26 =>
callQ Try.prog KK.gl ((100004, some ⟨[(AV.sc (.string b100004_0)), b100004_1], 51⟩) :: m) 47 [v26, (AV.fn 48 [(AV.ptr 100004 0)])] fun v27 =>
exB v27 fun b28 =>
bif b28 then (
retL R ((100004, some ⟨[(AV.sc (.string b100004_0)), b100004_1], 51⟩) :: m) [some (intA (7))]) else (
opN (app (mget ((100004, some ⟨[(AV.sc (.string b100004_0)), b100004_1], 51⟩) :: m)) 76 3 40 [AV.nils, (intA (0)), (intA (0))] 200072 t3 b100004_1) ((100004, some ⟨[(AV.sc (.string b100004_0)), b100004_1], 51⟩) :: m) fun v29 m29 =>
N0 ⟨[(0, t0), (2, (intA t2)), (3, v29), (4, (intA t4)), (5, (AV.ptr 100004 0)), (18, t18), (19, (intA t19)), (20, (intA (IntKind.wrap .i64 (t20 + (1))))), (41, t41), (42, (intA t42)), (43, (intA t43)), (44, (boolA (decide (t43 < t42)))), (53, t0), (54, (intA t4)), (55, v26), (56, (AV.fn 48 [(AV.ptr 100004 0)])), (57, (boolA b28)), (58, t3), (59, (AV.ptr 100004 1)), (60, b100004_1), (61, v29), (62, (intA (IntKind.wrap .i64 (t20 + (1)))))], m29, 200076⟩))
theorem B24_0_0_eq (t0 : AV) (t2 : Int) (t3 : AV) (t4 : Int) (t18 : AV) (t19 : Int) (t20 : Int) (t41 : AV) (t42 : Int) (t43 : Int) (b100004_0 : ByteArray) (b100004_1 : AV) (m : Mem) (R : AV → Mem → Prop) (N0 : St → Prop) (N1 : St → Prop) : W Try.prog KK 87 0 c24_0_0 (h24_0_0 t0 t2 t3 t4 t18 t19 t20 t41 t42 t43 b100004_0 b100004_1 m) (qq24_0_0 R N0 N1) = B24_0_0 t0 t2 t3 t4 t18 t19 t20 t41 t42 t43 b100004_0 b100004_1 m R N0 N1 := by kernel_rfl
theorem L24_0_0 (R : AV → Mem → Prop) (N0 : St → Prop) {σ : Type} (I : σ → Prop) (t0 : σ → AV) (t2 : σ → Int) (t3 : σ → AV) (t4 : σ → Int) (t18 : σ → AV) (t19 : σ → Int) (t20 : σ → Int) (t41 : σ → AV) (t42 : σ → Int) (t43 : σ → Int) (b100004_0 : σ → ByteArray) (b100004_1 : σ → AV) (m : σ → Mem) (μ : σ → Nat) (step : ∀ x, I x → B24_0_0 (t0 x) (t2 x) (t3 x) (t4 x) (t18 x) (t19 x) (t20 x) (t41 x) (t42 x) (t43 x) (b100004_0 x) (b100004_1 x) (m x) R N0 (fun s' => ∃ y, I y ∧ μ y < μ x ∧ Weak KK 87 0 s' (h24_0_0 (t0 y) (t2 y) (t3 y) (t4 y) (t18 y) (t19 y) (t20 y) (t41 y) (t42 y) (t43 y) (b100004_0 y) (b100004_1 y) (m y)))) (x : σ) (hx : I x) {s : St} (hw : Weak KK 87 0 s (h24_0_0 (t0 x) (t2 x) (t3 x) (t4 x) (t18 x) (t19 x) (t20 x) (t41 x) (t42 x) (t43 x) (b100004_0 x) (b100004_1 x) (m x))) : Tri Try.prog KK 87 0 (.loop c24_0_0) s (q24_0_0 R N0) :=
  Tri.weak hw (Tri.loops fol I (fun x => h24_0_0 (t0 x) (t2 x) (t3 x) (t4 x) (t18 x) (t19 x) (t20 x) (t41 x) (t42 x) (t43 x) (b100004_0 x) (b100004_1 x) (m x)) μ (fun x hx => (B24_0_0_eq (t0 x) (t2 x) (t3 x) (t4 x) (t18 x) (t19 x) (t20 x) (t41 x) (t42 x) (t43 x) (b100004_0 x) (b100004_1 x) (m x) R N0 _).mpr (step x hx)) x hx)
noncomputable def B24_1 (t2 : Int) (t3 : AV) (t63 : AV) (t64 : Int) (t65 : Int) (m : Mem) (R : AV → Mem → Prop) (N0 : St → Prop) : Prop :=
bif (decide (t65 < t64)) then (
opP (idxS 3 t63 (intA t65)) fun v32 =>
opP (ldA (mget m) 3 v32) fun v33 =>
exA3 v33 fun c34 c35 c36 =>
ex_i64 c35 fun z37 =>
ex_i64 c36 fun z38 =>
chk (isCell c34) <| opP (opA Try.prog (.slice 49 (.tmp 0) none (some (.tmp 1)) none) 49 [t3, (intA t65)] (mget ((200004, some ⟨[c34, (intA z37), (intA z38)], 76⟩) :: (200004, some ⟨[AV.nils, (intA (0)), (intA (0))], 76⟩) :: m)) 200009) fun v39 =>
opP (lenS v39) fun v40 =>
ex_i64 v40 fun z41 =>
Tri Try.prog KK 87 0 (.loop c24_1_0) ⟨[(2, (intA t2)), (3, t3), (63, t63), (64, (intA t64)), (65, (intA t65)), (66, (boolA (decide (t65 < t64)))), (67, (intA t65)), (68, v32), (69, (AV.agg [c34, (intA z37), (intA z38)])), (10, (AV.ptr 200004 0)), (9, (intA t65)), (70, t3), (71, (intA t65)), (72, v39), (73, (intA z41)), (74, (intA (0)))], ((200004, some ⟨[c34, (intA z37), (intA z38)], 76⟩) :: (200004, some ⟨[AV.nils, (intA (0)), (intA (0))], 76⟩) :: m), 200012⟩ (q24_1_0 R N0)) else (
retL R m [some (intA (0))])
theorem B24_1_eq (t2 : Int) (t3 : AV) (t63 : AV) (t64 : Int) (t65 : Int) (m : Mem) (R : AV → Mem → Prop) (N0 : St → Prop) : W Try.prog KK 87 0 c24_1 (h24_1 t2 t3 t63 t64 t65 m) (qq24_1 R N0) = B24_1 t2 t3 t63 t64 t65 m R N0 := by kernel_rfl
theorem L24_1 (R : AV → Mem → Prop) {σ : Type} (I : σ → Prop) (t2 : σ → Int) (t3 : σ → AV) (t63 : σ → AV) (t64 : σ → Int) (t65 : σ → Int) (m : σ → Mem) (μ : σ → Nat) (step : ∀ x, I x → B24_1 (t2 x) (t3 x) (t63 x) (t64 x) (t65 x) (m x) R (fun s' => ∃ y, I y ∧ μ y < μ x ∧ Weak KK 87 0 s' (h24_1 (t2 y) (t3 y) (t63 y) (t64 y) (t65 y) (m y)))) (x : σ) (hx : I x) {s : St} (hw : Weak KK 87 0 s (h24_1 (t2 x) (t3 x) (t63 x) (t64 x) (t65 x) (m x))) : Tri Try.prog KK 87 0 (.loop c24_1) s (q24_1 R) :=
  Tri.weak hw (Tri.loops fol I (fun x => h24_1 (t2 x) (t3 x) (t63 x) (t64 x) (t65 x) (m x)) μ (fun x hx => (B24_1_eq (t2 x) (t3 x) (t63 x) (t64 x) (t65 x) (m x) R _).mpr (step x hx)) x hx)
noncomputable def B24_1_0 (t2 : Int) (t3 : AV) (t63 : AV) (t64 : Int) (t65 : Int) (t72 : AV) (t73 : Int) (t74 : Int) (b200004_0 : AV) (b200004_1 : Int) (b200004_2 : Int) (m : Mem) (R : AV → Mem → Prop) (N0 : St → Prop) (N1 : St → Prop) : Prop :=
bif (decide (t74 < t73)) then (
opP (idxS 3 t72 (intA t74)) fun v42 =>
opP (ldA (mget ((200004, some ⟨[b200004_0, (intA b200004_1), (intA b200004_2)], 76⟩) :: m)) 3 v42) fun v43 =>
exA3 v43 fun c44 c45 c46 =>
ex_i64 c45 fun z47 =>
ex_i64 c46 fun z48 =>
chk (isCell c44) <| callQ Try.prog KK.gl ((300003, some ⟨[c44, (intA z47), (intA z48)], 76⟩) :: (300003, some ⟨[AV.nils, (intA (0)), (intA (0))], 76⟩) :: (200004, some ⟨[b200004_0, (intA b200004_1), (intA b200004_2)], 76⟩) :: m) 49 [(AV.agg [b200004_0, (intA b200004_1), (intA b200004_2)]), (AV.agg [c44, (intA z47), (intA z48)])] fun v49 =>
exT2 v49 fun c50 c51 =>
exB c50 fun b52 =>
ex_i64 c51 fun z53 =>
bif b52 then (
retL R ((300003, some ⟨[c44, (intA z47), (intA z48)], 76⟩) :: (300003, some ⟨[AV.nils, (intA (0)), (intA (0))], 76⟩) :: (200004, some ⟨[b200004_0, (intA b200004_1), (intA b200004_2)], 76⟩) :: m) [some (intA (19))]) else (
N1 ⟨[(2, (intA t2)), (3, t3), (10, (AV.ptr 200004 0)), (63, t63), (64, (intA t64)), (65, (intA t65)), (72, t72), (73, (intA t73)), (74, (intA (IntKind.wrap .i64 (t74 + (1))))), (75, (boolA (decide (t74 < t73)))), (76, v42), (77, (AV.agg [c44, (intA z47), (intA z48)])), (12, (AV.ptr 300003 0)), (79, (AV.agg [b200004_0, (intA b200004_1), (intA b200004_2)])), (80, (AV.agg [c44, (intA z47), (intA z48)])), (81, (AV.tup [(boolA b52), (intA z53)])), (78, (AV.tup [(boolA b52), (intA z53)])), (82, (boolA b52)), (83, (intA z53)), (13, (boolA b52)), (14, (intA z53)), (84, (boolA b52)), (85, (intA (IntKind.wrap .i64 (t74 + (1)))))], ((300003, some ⟨[c44, (intA z47), (intA z48)], 76⟩) :: (300003, some ⟨[AV.nils, (intA (0)), (intA (0))], 76⟩) :: (200004, some ⟨[b200004_0, (intA b200004_1), (intA b200004_2)], 76⟩) :: m), 300079⟩)) else (
N0 ⟨[(2, (intA t2)), (3, t3), (10, (AV.ptr 200004 0)), (63, t63), (64, (intA t64)), (65, (intA (IntKind.wrap .i64 (t65 + (1))))), (72, t72), (73, (intA t73)), (74, (intA t74)), (75, (boolA (decide (t74 < t73)))), (86, (intA (IntKind.wrap .i64 (t65 + (1)))))], ((200004, some ⟨[b200004_0, (intA b200004_1), (intA b200004_2)], 76⟩) :: m), 300003⟩)
theorem B24_1_0_eq (t2 : Int) (t3 : AV) (t63 : AV) (t64 : Int) (t65 : Int) (t72 : AV) (t73 : Int) (t74 : Int) (b200004_0 : AV) (b200004_1 : Int) (b200004_2 : Int) (m : Mem) (R : AV → Mem → Prop) (N0 : St → Prop) (N1 : St → Prop) : W Try.prog KK 87 0 c24_1_0 (h24_1_0 t2 t3 t63 t64 t65 t72 t73 t74 b200004_0 b200004_1 b200004_2 m) (qq24_1_0 R N0 N1) = B24_1_0 t2 t3 t63 t64 t65 t72 t73 t74 b200004_0 b200004_1 b200004_2 m R N0 N1 := by kernel_rfl
theorem L24_1_0 (R : AV → Mem → Prop) (N0 : St → Prop) {σ : Type} (I : σ → Prop) (t2 : σ → Int) (t3 : σ → AV) (t63 : σ → AV) (t64 : σ → Int) (t65 : σ → Int) (t72 : σ → AV) (t73 : σ → Int) (t74 : σ → Int) (b200004_0 : σ → AV) (b200004_1 : σ → Int) (b200004_2 : σ → Int) (m : σ → Mem) (μ : σ → Nat) (step : ∀ x, I x → B24_1_0 (t2 x) (t3 x) (t63 x) (t64 x) (t65 x) (t72 x) (t73 x) (t74 x) (b200004_0 x) (b200004_1 x) (b200004_2 x) (m x) R N0 (fun s' => ∃ y, I y ∧ μ y < μ x ∧ Weak KK 87 0 s' (h24_1_0 (t2 y) (t3 y) (t63 y) (t64 y) (t65 y) (t72 y) (t73 y) (t74 y) (b200004_0 y) (b200004_1 y) (b200004_2 y) (m y)))) (x : σ) (hx : I x) {s : St} (hw : Weak KK 87 0 s (h24_1_0 (t2 x) (t3 x) (t63 x) (t64 x) (t65 x) (t72 x) (t73 x) (t74 x) (b200004_0 x) (b200004_1 x) (b200004_2 x) (m x))) : Tri Try.prog KK 87 0 (.loop c24_1_0) s (q24_1_0 R N0) :=
  Tri.weak hw (Tri.loops fol I (fun x => h24_1_0 (t2 x) (t3 x) (t63 x) (t64 x) (t65 x) (t72 x) (t73 x) (t74 x) (b200004_0 x) (b200004_1 x) (b200004_2 x) (m x)) μ (fun x hx => (B24_1_0_eq (t2 x) (t3 x) (t63 x) (t64 x) (t65 x) (t72 x) (t73 x) (t74 x) (b200004_0 x) (b200004_1 x) (b200004_2 x) (m x) R N0 _).mpr (step x hx)) x hx)
noncomputable def F24 (a0 : AV) (R : AV → Mem → Prop) : Prop :=
opP (lenS a0) fun v0 =>
ex_i64 v0 fun z1 =>
bif (decide (z1 > (12))) then (
retL R [] [some (intA (2))]) else (
opP (lenS a0) fun v2 =>
ex_i64 v2 fun z3 =>
Tri Try.prog KK 87 0 (.loop c24_0) ⟨[(0, a0), (2, (intA (0))), (15, a0), (16, (intA z1)), (17, (boolA (decide (z1 > (12))))), (3, AV.nils), (18, a0), (19, (intA z3)), (20, (intA (0)))], [], 8⟩ (q24_0 R))
theorem F24_own (a0 : AV) (R : AV → Mem → Prop) (h : F24 a0 R) : Own Try.prog KK.gl 24 [a0] R := own_of_F fol Try.func24 (code := c24) (by kernel_rfl) (by kernel_rfl) (by kernel_rfl) (X := F24 a0 R) (by kernel_rfl) h
/- skyway/skywaykeep3.small -/
noncomputable def c10 : Code := ((Try.f10).body).getD .skip
noncomputable def q10 (R : AV → Mem → Prop) : AExit → St → Prop := retQ Try.prog Try.f10 R
noncomputable def c10_0 : Code := loopB c10 0
noncomputable def q10_0 (R : AV → Mem → Prop) : AExit → St → Prop := contW Try.prog KK 41 0 c10 0 (q10 R)
noncomputable def qq10_0 (R : AV → Mem → Prop) (N0 : St → Prop) : AExit → St → Prop := thenQ N0 (q10_0 R)
def h10_0 (t2 : Int) (t6 : Bool) (t13 : AV) (t14 : Int) (t15 : Int) (m : Mem) : St := ⟨[(2, (intA t2)), (6, (boolA t6)), (13, t13), (14, (intA t14)), (15, (intA t15))], m, 100000⟩
noncomputable def B10_0 (t2 : Int) (t6 : Bool) (t13 : AV) (t14 : Int) (t15 : Int) (m : Mem) (R : AV → Mem → Prop) (N0 : St → Prop) : Prop :=
bif (decide (t15 < t14)) then (
opP (idxS 1 t13 (intA t15)) fun v4 =>
opP (ldS (mget m) v4) fun v5 =>
callQ Try.prog KK.gl m 28 [v5] fun v6 =>
ex_i64 v6 fun z7 =>
bif (z7 != (0)) then (
retL R m [some (boolA false)]) else (
opP (lenS v5) fun v8 =>
ex_i64 v8 fun z9 =>
opP (idxS 6 v5 (intA (IntKind.wrap .i64 (z9 - (1))))) fun v10 =>
opP (fldO 0 v10) fun v11 =>
opP (fldO 0 v11) fun v12 =>
opP (ldS (mget m) v12) fun v13 =>
ex_i64 v13 fun z14 =>
opP (idxS 6 v5 (intA (0))) fun v15 =>
opP (fldO 0 v15) fun v16 =>
opP (fldO 0 v16) fun v17 =>
opP (ldS (mget m) v17) fun v18 =>
ex_i64 v18 fun z19 =>
bif (decide ((IntKind.wrap .i64 (z14 - z19)) > t2)) then (
retL R m [some (boolA false)]) else (
N0 ⟨[(2, (intA t2)), (6, (boolA t6)), (13, t13), (14, (intA t14)), (15, (intA (IntKind.wrap .i64 (t15 + (1))))), (16, (boolA (decide (t15 < t14)))), (17, v4), (18, v5), (8, v5), (19, v5), (20, (intA z7)), (21, (boolA (z7 != (0)))), (22, (boolA false)), (23, v5), (24, v5), (25, (intA z9)), (26, (intA (IntKind.wrap .i64 (z9 - (1))))), (27, v10), (28, v11), (29, v12), (30, (intA z14)), (31, v5), (32, v15), (33, v16), (34, v17), (35, (intA z19)), (36, (intA (IntKind.wrap .i64 (z14 - z19)))), (37, (intA t2)), (38, (boolA (decide ((IntKind.wrap .i64 (z14 - z19)) > t2)))), (39, (boolA (decide ((IntKind.wrap .i64 (z14 - z19)) > t2)))), (40, (intA (IntKind.wrap .i64 (t15 + (1)))))], m, 100027⟩))) else (
retL R m [some (boolA true)])
theorem B10_0_eq (t2 : Int) (t6 : Bool) (t13 : AV) (t14 : Int) (t15 : Int) (m : Mem) (R : AV → Mem → Prop) (N0 : St → Prop) : W Try.prog KK 41 0 c10_0 (h10_0 t2 t6 t13 t14 t15 m) (qq10_0 R N0) = B10_0 t2 t6 t13 t14 t15 m R N0 := by kernel_rfl
theorem L10_0 (R : AV → Mem → Prop) {σ : Type} (I : σ → Prop) (t2 : σ → Int) (t6 : σ → Bool) (t13 : σ → AV) (t14 : σ → Int) (t15 : σ → Int) (m : σ → Mem) (μ : σ → Nat) (step : ∀ x, I x → B10_0 (t2 x) (t6 x) (t13 x) (t14 x) (t15 x) (m x) R (fun s' => ∃ y, I y ∧ μ y < μ x ∧ Weak KK 41 0 s' (h10_0 (t2 y) (t6 y) (t13 y) (t14 y) (t15 y) (m y)))) (x : σ) (hx : I x) {s : St} (hw : Weak KK 41 0 s (h10_0 (t2 x) (t6 x) (t13 x) (t14 x) (t15 x) (m x))) : Tri Try.prog KK 41 0 (.loop c10_0) s (q10_0 R) :=
  Tri.weak hw (Tri.loops fol I (fun x => h10_0 (t2 x) (t6 x) (t13 x) (t14 x) (t15 x) (m x)) μ (fun x hx => (B10_0_eq (t2 x) (t6 x) (t13 x) (t14 x) (t15 x) (m x) R _).mpr (step x hx)) x hx)
noncomputable def F10 (a0 : AV) (a1 : Int) (a2 : Int) (R : AV → Mem → Prop) : Prop :=
opP (lenS a0) fun v0 =>
ex_i64 v0 fun z1 =>
bif (decide (z1 > a1)) then (
retL R [] [some (boolA false)]) else (
opP (lenS a0) fun v2 =>
ex_i64 v2 fun z3 =>
Tri Try.prog KK 41 0 (.loop c10_0) ⟨[(0, a0), (1, (intA a1)), (2, (intA a2)), (6, (boolA false)), (9, a0), (10, (intA z1)), (11, (intA a1)), (12, (boolA (decide (z1 > a1)))), (13, a0), (14, (intA z3)), (15, (intA (0)))], [], 8⟩ (q10_0 R))
theorem F10_own (a0 : AV) (a1 : Int) (a2 : Int) (R : AV → Mem → Prop) (h : F10 a0 a1 a2 R) : Own Try.prog KK.gl 10 [a0, (intA a1), (intA a2)] R := own_of_F fol Try.func10 (code := c10) (by kernel_rfl) (by kernel_rfl) (by kernel_rfl) (X := F10 a0 a1 a2 R) (by kernel_rfl) h
/- skyway/sector.Path -/
noncomputable def c11 : Code := ((Try.f11).body).getD .skip
noncomputable def q11 (R : AV → Mem → Prop) : AExit → St → Prop := retQ Try.prog Try.f11 R
noncomputable def F11 (a0 : AV) (a1 : AV) (R : AV → Mem → Prop) : Prop :=
callQ Try.prog KK.gl [] 24 [a0] fun v0 =>
ex_i64 v0 fun z1 =>
bif (z1 != (0)) then (
retL R [] [some AV.nils, some (intA z1)]) else (
callQ Try.prog KK.gl [] 28 [a1] fun v2 =>
ex_i64 v2 fun z3 =>
bif (z3 != (0)) then (
retL R [] [some AV.nils, some (intA z3)]) else (
opP (lenS a1) fun v4 =>
ex_i64 v4 fun z5 =>
opP (idxS 6 a1 (intA (IntKind.wrap .i64 (z5 - (1))))) fun v6 =>
opP (fldO 0 v6) fun v7 =>
opP (fldO 0 v7) fun v8 =>
opP (ldS (mget []) v8) fun v9 =>
ex_i64 v9 fun z10 =>
opP (idxS 6 a1 (intA (0))) fun v11 =>
opP (fldO 0 v11) fun v12 =>
opP (fldO 0 v12) fun v13 =>
opP (ldS (mget []) v13) fun v14 =>
ex_i64 v14 fun z15 =>
bif (decide ((IntKind.wrap .i64 (z10 - z15)) > (20000))) then (
retL R [] [some AV.nils, some (intA (2))]) else (
callQ Try.prog KK.gl [] 29 [a0, a1] fun v16 =>
retL R [] [some v16, some (intA (0))])))
theorem F11_own (a0 : AV) (a1 : AV) (R : AV → Mem → Prop) (h : F11 a0 a1 R) : Own Try.prog KK.gl 11 [a0, a1] R := own_of_F fol Try.func11 (code := c11) (by kernel_rfl) (by kernel_rfl) (by kernel_rfl) (X := F11 a0 a1 R) (by kernel_rfl) h
/- skyway/skywaykeep3.SectorVisits -/
noncomputable def c3 : Code := ((Try.f3).body).getD .skip
noncomputable def q3 (R : AV → Mem → Prop) : AExit → St → Prop := retQ Try.prog Try.f3 R
noncomputable def c3_0 : Code := loopB c3 0
noncomputable def q3_0 (R : AV → Mem → Prop) : AExit → St → Prop := contW Try.prog KK 111 0 c3 0 (q3 R)
noncomputable def qq3_0 (R : AV → Mem → Prop) (N0 : St → Prop) : AExit → St → Prop := thenQ N0 (q3_0 R)
def h3_0 (t0 : AV) (t4 : Bool) (t5 : AV) (t59 : AV) (t60 : Int) (t61 : Int) (m : Mem) : St := ⟨[(0, t0), (4, (boolA t4)), (5, t5), (59, t59), (60, (intA t60)), (61, (intA t61))], m, 100000⟩
noncomputable def B3_0 (t0 : AV) (t4 : Bool) (t5 : AV) (t59 : AV) (t60 : Int) (t61 : Int) (m : Mem) (R : AV → Mem → Prop) (N0 : St → Prop) : Prop :=
bif (decide (t61 < t60)) then (
opP (idxS 3 t59 (intA t61)) fun v37 =>
opP (ldA (mget m) 3 v37) fun v38 =>
exA3 v38 fun c39 c40 c41 =>
ex_i64 c39 fun z42 =>
ex_i64 c40 fun z43 =>
ex_i64 c41 fun z44 =>
bif (decide (z42 < (-1))) then (
retL R ((100004, some ⟨[(intA z42), (intA z43), (intA z44)], 33⟩) :: (100004, some ⟨[(intA (0)), (intA (0)), (intA (0))], 33⟩) :: m) [some (boolA false)]) else (
opP (lenS t0) fun v45 =>
ex_i64 v45 fun z46 =>
bif (decide (z42 ≥ z46)) then (
retL R ((100004, some ⟨[(intA z42), (intA z43), (intA z44)], 33⟩) :: (100004, some ⟨[(intA (0)), (intA (0)), (intA (0))], 33⟩) :: m) [some (boolA false)]) else (
bif (decide (z43 > z44)) then (
retL R ((100004, some ⟨[(intA z42), (intA z43), (intA z44)], 33⟩) :: (100004, some ⟨[(intA (0)), (intA (0)), (intA (0))], 33⟩) :: m) [some (boolA false)]) else (
bif (decide (t61 > (0))) then (
opP (idxS 3 t5 (intA (IntKind.wrap .i64 (t61 - (1))))) fun v47 =>
opP (fldO 2 v47) fun v48 =>
opP (ldS (mget ((100004, some ⟨[(intA z42), (intA z43), (intA z44)], 33⟩) :: (100004, some ⟨[(intA (0)), (intA (0)), (intA (0))], 33⟩) :: m)) v48) fun v49 =>
ex_i64 v49 fun z50 =>
bif (z43 != (IntKind.wrap .i64 (z50 + (1)))) then (
retL R ((100004, some ⟨[(intA z42), (intA z43), (intA z44)], 33⟩) :: (100004, some ⟨[(intA (0)), (intA (0)), (intA (0))], 33⟩) :: m) [some (boolA false)]) else (
opP (idxS 3 t5 (intA (IntKind.wrap .i64 (t61 - (1))))) fun v51 =>
opP (fldO 0 v51) fun v52 =>
opP (ldS (mget ((100004, some ⟨[(intA z42), (intA z43), (intA z44)], 33⟩) :: (100004, some ⟨[(intA (0)), (intA (0)), (intA (0))], 33⟩) :: m)) v52) fun v53 =>
ex_i64 v53 fun z54 =>
bif (z42 == z54) then (
retL R ((100004, some ⟨[(intA z42), (intA z43), (intA z44)], 33⟩) :: (100004, some ⟨[(intA (0)), (intA (0)), (intA (0))], 33⟩) :: m) [some (boolA false)]) else (
N0 ⟨[(0, t0), (4, (boolA t4)), (5, t5), (59, t59), (60, (intA t60)), (61, (intA (IntKind.wrap .i64 (t61 + (1))))), (62, (boolA (decide (t61 < t60)))), (63, (intA t61)), (64, v37), (65, (AV.agg [(intA z42), (intA z43), (intA z44)])), (8, (AV.ptr 100004 0)), (7, (intA t61)), (66, (AV.ptr 100004 0)), (67, (intA z42)), (68, (boolA (decide (z42 < (-1))))), (69, (boolA false)), (70, (AV.ptr 100004 0)), (71, (intA z42)), (72, t0), (73, (intA z46)), (74, (boolA (decide (z42 ≥ z46)))), (75, (boolA (decide (z42 ≥ z46)))), (76, (boolA false)), (77, (AV.ptr 100004 1)), (78, (intA z43)), (79, (AV.ptr 100004 2)), (80, (intA z44)), (81, (boolA (decide (z43 > z44)))), (82, (boolA (decide (z43 > z44)))), (83, (boolA false)), (84, (intA t61)), (85, (boolA (decide (t61 > (0))))), (86, (boolA true)), (87, (AV.ptr 100004 1)), (88, (intA z43)), (89, t5), (90, (intA t61)), (91, (intA (IntKind.wrap .i64 (t61 - (1))))), (92, v47), (93, v48), (94, (intA z50)), (95, (intA (IntKind.wrap .i64 (z50 + (1))))), (96, (boolA (z43 != (IntKind.wrap .i64 (z50 + (1)))))), (97, (boolA false)), (98, (AV.ptr 100004 0)), (99, (intA z42)), (100, t5), (101, (intA t61)), (102, (intA (IntKind.wrap .i64 (t61 - (1))))), (103, v51), (104, v52), (105, (intA z54)), (106, (boolA (z42 == z54))), (107, (boolA (z42 == z54))), (108, (boolA (z42 == z54))), (109, (boolA (z42 == z54))), (110, (intA (IntKind.wrap .i64 (t61 + (1)))))], ((100004, some ⟨[(intA z42), (intA z43), (intA z44)], 33⟩) :: (100004, some ⟨[(intA (0)), (intA (0)), (intA (0))], 33⟩) :: m), 100053⟩))) else (
N0 ⟨[(0, t0), (4, (boolA t4)), (5, t5), (59, t59), (60, (intA t60)), (61, (intA (IntKind.wrap .i64 (t61 + (1))))), (62, (boolA (decide (t61 < t60)))), (63, (intA t61)), (64, v37), (65, (AV.agg [(intA z42), (intA z43), (intA z44)])), (8, (AV.ptr 100004 0)), (7, (intA t61)), (66, (AV.ptr 100004 0)), (67, (intA z42)), (68, (boolA (decide (z42 < (-1))))), (69, (boolA false)), (70, (AV.ptr 100004 0)), (71, (intA z42)), (72, t0), (73, (intA z46)), (74, (boolA (decide (z42 ≥ z46)))), (75, (boolA (decide (z42 ≥ z46)))), (76, (boolA false)), (77, (AV.ptr 100004 1)), (78, (intA z43)), (79, (AV.ptr 100004 2)), (80, (intA z44)), (81, (boolA (decide (z43 > z44)))), (82, (boolA (decide (z43 > z44)))), (83, (boolA false)), (84, (intA t61)), (85, (boolA (decide (t61 > (0))))), (86, (boolA false)), (87, (AV.tup [])), (88, (AV.tup [])), (89, (AV.tup [])), (90, (AV.tup [])), (91, (AV.tup [])), (92, (AV.tup [])), (93, (AV.tup [])), (94, (AV.tup [])), (95, (AV.tup [])), (96, (AV.tup [])), (97, (AV.tup [])), (98, (AV.tup [])), (99, (AV.tup [])), (100, (AV.tup [])), (101, (AV.tup [])), (102, (AV.tup [])), (103, (AV.tup [])), (104, (AV.tup [])), (105, (AV.tup [])), (106, (AV.tup [])), (107, (AV.tup [])), (108, (boolA false)), (109, (boolA false)), (110, (intA (IntKind.wrap .i64 (t61 + (1)))))], ((100004, some ⟨[(intA z42), (intA z43), (intA z44)], 33⟩) :: (100004, some ⟨[(intA (0)), (intA (0)), (intA (0))], 33⟩) :: m), 100053⟩))))) else (
retL R m [some (boolA true)])
theorem B3_0_eq (t0 : AV) (t4 : Bool) (t5 : AV) (t59 : AV) (t60 : Int) (t61 : Int) (m : Mem) (R : AV → Mem → Prop) (N0 : St → Prop) : W Try.prog KK 111 0 c3_0 (h3_0 t0 t4 t5 t59 t60 t61 m) (qq3_0 R N0) = B3_0 t0 t4 t5 t59 t60 t61 m R N0 := by kernel_rfl
theorem L3_0 (R : AV → Mem → Prop) {σ : Type} (I : σ → Prop) (t0 : σ → AV) (t4 : σ → Bool) (t5 : σ → AV) (t59 : σ → AV) (t60 : σ → Int) (t61 : σ → Int) (m : σ → Mem) (μ : σ → Nat) (step : ∀ x, I x → B3_0 (t0 x) (t4 x) (t5 x) (t59 x) (t60 x) (t61 x) (m x) R (fun s' => ∃ y, I y ∧ μ y < μ x ∧ Weak KK 111 0 s' (h3_0 (t0 y) (t4 y) (t5 y) (t59 y) (t60 y) (t61 y) (m y)))) (x : σ) (hx : I x) {s : St} (hw : Weak KK 111 0 s (h3_0 (t0 x) (t4 x) (t5 x) (t59 x) (t60 x) (t61 x) (m x))) : Tri Try.prog KK 111 0 (.loop c3_0) s (q3_0 R) :=
  Tri.weak hw (Tri.loops fol I (fun x => h3_0 (t0 x) (t4 x) (t5 x) (t59 x) (t60 x) (t61 x) (m x)) μ (fun x hx => (B3_0_eq (t0 x) (t4 x) (t5 x) (t59 x) (t60 x) (t61 x) (m x) R _).mpr (step x hx)) x hx)
noncomputable def F3 (a0 : AV) (a1 : AV) (R : AV → Mem → Prop) : Prop :=
callQ Try.prog KK.gl [] 9 [] fun v0 =>
exB v0 fun b1 =>
bif (!b1) then (
retL R [] [some (boolA false)]) else (
opN (bsl 67 24 1 1 [AV.nils] [(0, a1)]) [] fun v2 m2 =>
callQ Try.prog KK.gl m2 10 [v2, (intA (1)), (intA (400))] fun v3 =>
exB v3 fun b4 =>
bif (!b4) then (
retL R m2 [some (boolA true)]) else (
callQ Try.prog KK.gl m2 11 [a0, a1] fun v5 =>
exT2 v5 fun c6 c7 =>
ex_i64 c7 fun z8 =>
bif (z8 != (0)) then (
opP (lenS c6) fun v9 =>
ex_i64 v9 fun z10 =>
retL R m2 [some (boolA (z10 == (0)))]) else (
opP (lenS c6) fun v11 =>
ex_i64 v11 fun z12 =>
bif (z12 == (0)) then (
retL R m2 [some (boolA false)]) else (
opP (idxS 3 c6 (intA (0))) fun v13 =>
opP (fldO 1 v13) fun v14 =>
opP (ldS (mget m2) v14) fun v15 =>
ex_i64 v15 fun z16 =>
opP (idxS 6 a1 (intA (0))) fun v17 =>
opP (fldO 0 v17) fun v18 =>
opP (fldO 0 v18) fun v19 =>
opP (ldS (mget m2) v19) fun v20 =>
ex_i64 v20 fun z21 =>
bif (z16 != z21) then (
retL R m2 [some (boolA false)]) else (
opP (lenS c6) fun v22 =>
ex_i64 v22 fun z23 =>
opP (idxS 3 c6 (intA (IntKind.wrap .i64 (z23 - (1))))) fun v24 =>
opP (fldO 2 v24) fun v25 =>
opP (ldS (mget m2) v25) fun v26 =>
ex_i64 v26 fun z27 =>
opP (lenS a1) fun v28 =>
ex_i64 v28 fun z29 =>
opP (idxS 6 a1 (intA (IntKind.wrap .i64 (z29 - (1))))) fun v30 =>
opP (fldO 0 v30) fun v31 =>
opP (fldO 0 v31) fun v32 =>
opP (ldS (mget m2) v32) fun v33 =>
ex_i64 v33 fun z34 =>
bif (z27 != z34) then (
retL R m2 [some (boolA false)]) else (
opP (lenS c6) fun v35 =>
ex_i64 v35 fun z36 =>
Tri Try.prog KK 111 0 (.loop c3_0) ⟨[(0, a0), (1, a1), (4, (boolA false)), (9, (boolA b1)), (10, (boolA (!b1))), (11, a1), (12, v2), (13, (boolA b4)), (14, (boolA (!b4))), (16, a0), (17, a1), (18, (AV.tup [c6, (intA z8)])), (15, (AV.tup [c6, (intA z8)])), (19, c6), (20, (intA z8)), (5, c6), (6, (intA z8)), (21, (intA z8)), (22, (boolA (z8 != (0)))), (26, c6), (27, (intA z12)), (28, (boolA (z12 == (0)))), (29, (boolA false)), (30, c6), (31, v13), (32, v14), (33, (intA z16)), (34, a1), (35, v17), (36, v18), (37, v19), (38, (intA z21)), (39, (boolA (z16 != z21))), (40, (boolA (z16 != z21))), (41, (boolA false)), (42, c6), (43, c6), (44, (intA z23)), (45, (intA (IntKind.wrap .i64 (z23 - (1))))), (46, v24), (47, v25), (48, (intA z27)), (49, a1), (50, a1), (51, (intA z29)), (52, (intA (IntKind.wrap .i64 (z29 - (1))))), (53, v30), (54, v31), (55, v32), (56, (intA z34)), (57, (boolA (z27 != z34))), (58, (boolA (z27 != z34))), (59, c6), (60, (intA z36)), (61, (intA (0)))], m2, 242⟩ (q3_0 R)))))))
theorem F3_own (a0 : AV) (a1 : AV) (R : AV → Mem → Prop) (h : F3 a0 a1 R) : Own Try.prog KK.gl 3 [a0, a1] R := own_of_F fol Try.func3 (code := c3) (by kernel_rfl) (by kernel_rfl) (by kernel_rfl) (X := F3 a0 a1 R) (by kernel_rfl) h
/- skyway/plane.Add -/
noncomputable def c34 : Code := ((Try.f34).body).getD .skip
noncomputable def q34 (R : AV → Mem → Prop) : AExit → St → Prop := retQ Try.prog Try.f34 R
noncomputable def F34 (a0_0 : Int) (a0_1 : Int) (a1_0 : Int) (a1_1 : Int) (R : AV → Mem → Prop) : Prop :=
opP (bld [(intA (0)), (intA (0))] [(0, 1), (1, 1)] [(0, (intA (IntKind.wrap .i64 (a0_0 + a1_0)))), (1, (intA (IntKind.wrap .i64 (a0_1 + a1_1))))]) fun v0 =>
storeW Try.prog (mget ((2, some ⟨[(intA (0)), (intA (0))], 35⟩) :: (1, some ⟨[(intA a1_0), (intA a1_1)], 35⟩) :: (0, some ⟨[(intA a0_0), (intA a0_1)], 35⟩) :: [])) 35 (AV.ptr 2 0) v0 fun v1 d1 =>
retL R (mpushs ((2, some ⟨[(intA (0)), (intA (0))], 35⟩) :: (1, some ⟨[(intA a1_0), (intA a1_1)], 35⟩) :: (0, some ⟨[(intA a0_0), (intA a0_1)], 35⟩) :: []) d1) [(aLoad Try.prog (mget (mpushs ((2, some ⟨[(intA (0)), (intA (0))], 35⟩) :: (1, some ⟨[(intA a1_0), (intA a1_1)], 35⟩) :: (0, some ⟨[(intA a0_0), (intA a0_1)], 35⟩) :: []) d1)) 35 (AV.ptr 2 0)).map (·.1)]
theorem F34_own (a0_0 : Int) (a0_1 : Int) (a1_0 : Int) (a1_1 : Int) (R : AV → Mem → Prop) (h : F34 a0_0 a0_1 a1_0 a1_1 R) : Own Try.prog KK.gl 34 [(AV.agg [(intA a0_0), (intA a0_1)]), (AV.agg [(intA a1_0), (intA a1_1)])] R := own_of_F fol Try.func34 (code := c34) (by kernel_rfl) (by kernel_rfl) (by kernel_rfl) (X := F34 a0_0 a0_1 a1_0 a1_1 R) (by kernel_rfl) h
/- skyway/tube.Shift -/
noncomputable def c17 : Code := ((Try.f17).body).getD .skip
noncomputable def q17 (R : AV → Mem → Prop) : AExit → St → Prop := retQ Try.prog Try.f17 R
noncomputable def c17_0 : Code := loopB c17 0
noncomputable def q17_0 (R : AV → Mem → Prop) : AExit → St → Prop := contW Try.prog KK 81 0 c17 0 (q17 R)
noncomputable def qq17_0 (R : AV → Mem → Prop) (N0 : St → Prop) : AExit → St → Prop := thenQ N0 (q17_0 R)
def h17_0 (t2 : Int) (t6 : AV) (t7 : Int) (t9 : AV) (t46 : Int) (t47 : Int) (m : Mem) : St := ⟨[(2, (intA t2)), (4, (AV.ptr 0 0)), (6, t6), (7, (intA t7)), (9, t9), (46, (intA t46)), (47, (intA t47))], m, 100000⟩
noncomputable def B17_0 (t2 : Int) (t6 : AV) (t7 : Int) (t9 : AV) (t46 : Int) (t47 : Int) (m : Mem) (R : AV → Mem → Prop) (N0 : St → Prop) : Prop :=
bif (decide (t47 < t46)) then (
opM (idxS 6 t9 (intA t47)) fun v5 d5 =>
opM (fldO 0 v5) fun v6 d6 =>
opM (fldO 1 v6) fun v7 d7 =>
opM (ldA (look' (mpushs (mpushs (mpushs m d5) d6) d7) (topId v7 ++ ([]))) 2 v7) fun v8 d8 =>
exA2 v8 fun c9 c10 =>
ex_i64 c9 fun z11 =>
ex_i64 c10 fun z12 =>
opM (ldA (look' (mpushs (mpushs (mpushs (mpushs m d5) d6) d7) d8) (topId (AV.ptr 0 0) ++ ([]))) 2 (AV.ptr 0 0)) fun v13 d13 =>
exA2 v13 fun c14 c15 =>
ex_i64 c14 fun z16 =>
ex_i64 c15 fun z17 =>
callF Try.prog KK.gl (mpushs (mpushs (mpushs (mpushs (mpushs m d5) d6) d7) d8) d13) 100012 34 [(AV.agg [(intA z11), (intA z12)]), (AV.agg [(intA z16), (intA z17)])] fun v18 d18 ft18 =>
exA2 v18 fun c19 c20 =>
ex_i64 c19 fun z21 =>
ex_i64 c20 fun z22 =>
opM (idxS 6 t9 (intA t47)) fun v23 d23 =>
opM (fldO 0 v23) fun v24 d24 =>
opM (fldO 1 v24) fun v25 d25 =>
storeW Try.prog (look' (mpushs (mpushs (mpushs (mpushs (mpushs (mpushs (mpushs (mpushs (mpushs m d5) d6) d7) d8) d13) d18) d23) d24) d25) (topId v25 ++ (topId (AV.agg [(intA z21), (intA z22)]) ++ ([])))) 35 v25 (AV.agg [(intA z21), (intA z22)]) fun v26 d26 =>
chk (confOk [0, 0, 0, 0, 12, 28, 60, 124, 0, 508, 1023, 2047, 4095, 8191] [⟨[], []⟩, ⟨[], []⟩, ⟨[], []⟩, ⟨[], []⟩, ⟨d5, []⟩, ⟨d6, []⟩, ⟨d7, []⟩, ⟨d8, (topId v7 ++ ([]))⟩, ⟨d13, (topId (AV.ptr 0 0) ++ ([]))⟩, ⟨d18, ft18⟩, ⟨d23, []⟩, ⟨d24, []⟩, ⟨d25, []⟩, ⟨d26, (topId v25 ++ (topId (AV.agg [(intA z21), (intA z22)]) ++ ([])))⟩]) (opP (idxS 6 t9 (intA t47)) fun v27 =>
opP (fldO 0 v27) fun v28 =>
opP (fldO 0 v28) fun v29 =>
opP (ldS (mget (mpushs (mpushs (mpushs (mpushs (mpushs (mpushs (mpushs (mpushs (mpushs (mpushs m d5) d6) d7) d8) d13) d18) d23) d24) d25) d26)) v29) fun v30 =>
ex_i64 v30 fun z31 =>
opP (idxS 6 t9 (intA t47)) fun v32 =>
opP (fldO 0 v32) fun v33 =>
opP (fldO 0 v33) fun v34 =>
storeW Try.prog (mget (mpushs (mpushs (mpushs (mpushs (mpushs (mpushs (mpushs (mpushs (mpushs (mpushs m d5) d6) d7) d8) d13) d18) d23) d24) d25) d26)) 3 v34 (intA (IntKind.wrap .i64 (z31 + t2))) fun v35 d35 =>
N0 ⟨[(2, (intA t2)), (4, (AV.ptr 0 0)), (6, t6), (7, (intA t7)), (9, t9), (46, (intA t46)), (47, (intA (IntKind.wrap .i64 (t47 + (1))))), (48, (boolA (decide (t47 < t46)))), (49, (intA t47)), (10, (intA t47)), (50, t9), (51, (intA t47)), (52, t9), (53, (intA t47)), (54, v5), (55, v6), (56, v7), (57, (AV.agg [(intA z11), (intA z12)])), (58, (AV.agg [(intA z16), (intA z17)])), (59, (AV.agg [(intA z21), (intA z22)])), (60, v23), (61, v24), (62, v25), (63, t9), (64, (intA t47)), (65, v27), (66, v28), (67, v29), (68, (intA z31)), (69, (intA t2)), (70, (intA (IntKind.wrap .i64 (z31 + t2)))), (71, v32), (72, v33), (73, v34), (74, (intA (IntKind.wrap .i64 (t47 + (1)))))], (mpushs (mpushs (mpushs (mpushs (mpushs (mpushs (mpushs (mpushs (mpushs (mpushs (mpushs m d5) d6) d7) d8) d13) d18) d23) d24) d25) d26) d35), 100031⟩)) else (
callQ Try.prog KK.gl m 28 [t9] fun v36 =>
ex_i64 v36 fun z37 =>
bif (z37 != (0)) then (
retL R m [some AV.nils, some (intA z37)]) else (
retL R m [some t9, some (intA (0))]))
theorem B17_0_eq (t2 : Int) (t6 : AV) (t7 : Int) (t9 : AV) (t46 : Int) (t47 : Int) (m : Mem) (R : AV → Mem → Prop) (N0 : St → Prop) : W Try.prog KK 81 0 c17_0 (h17_0 t2 t6 t7 t9 t46 t47 m) (qq17_0 R N0) = B17_0 t2 t6 t7 t9 t46 t47 m R N0 := by kernel_rfl
theorem L17_0 (R : AV → Mem → Prop) {σ : Type} (I : σ → Prop) (t2 : σ → Int) (t6 : σ → AV) (t7 : σ → Int) (t9 : σ → AV) (t46 : σ → Int) (t47 : σ → Int) (m : σ → Mem) (μ : σ → Nat) (step : ∀ x, I x → B17_0 (t2 x) (t6 x) (t7 x) (t9 x) (t46 x) (t47 x) (m x) R (fun s' => ∃ y, I y ∧ μ y < μ x ∧ Weak KK 81 0 s' (h17_0 (t2 y) (t6 y) (t7 y) (t9 y) (t46 y) (t47 y) (m y)))) (x : σ) (hx : I x) {s : St} (hw : Weak KK 81 0 s (h17_0 (t2 x) (t6 x) (t7 x) (t9 x) (t46 x) (t47 x) (m x))) : Tri Try.prog KK 81 0 (.loop c17_0) s (q17_0 R) :=
  Tri.weak hw (Tri.loops fol I (fun x => h17_0 (t2 x) (t6 x) (t7 x) (t9 x) (t46 x) (t47 x) (m x)) μ (fun x hx => (B17_0_eq (t2 x) (t6 x) (t7 x) (t9 x) (t46 x) (t47 x) (m x) R _).mpr (step x hx)) x hx)
noncomputable def F17 (a0 : AV) (a1_0 : Int) (a1_1 : Int) (a2 : Int) (R : AV → Mem → Prop) : Prop :=
callQ Try.prog KK.gl ((0, some ⟨[(intA a1_0), (intA a1_1)], 35⟩) :: []) 28 [a0] fun v0 =>
ex_i64 v0 fun z1 =>
bif (z1 != (0)) then (
retL R ((0, some ⟨[(intA a1_0), (intA a1_1)], 35⟩) :: []) [some AV.nils, some (intA z1)]) else (
bif (decide (a1_0 < (-2000000))) then (
retL R ((0, some ⟨[(intA a1_0), (intA a1_1)], 35⟩) :: []) [some AV.nils, some (intA (4))]) else (
bif (decide (a1_0 > (2000000))) then (
retL R ((0, some ⟨[(intA a1_0), (intA a1_1)], 35⟩) :: []) [some AV.nils, some (intA (4))]) else (
bif (decide (a1_1 < (-2000000))) then (
retL R ((0, some ⟨[(intA a1_0), (intA a1_1)], 35⟩) :: []) [some AV.nils, some (intA (4))]) else (
bif (decide (a1_1 > (2000000))) then (
retL R ((0, some ⟨[(intA a1_0), (intA a1_1)], 35⟩) :: []) [some AV.nils, some (intA (4))]) else (
bif (decide (a2 < (-200000))) then (
retL R ((0, some ⟨[(intA a1_0), (intA a1_1)], 35⟩) :: []) [some AV.nils, some (intA (4))]) else (
bif (decide (a2 > (200000))) then (
retL R ((0, some ⟨[(intA a1_0), (intA a1_1)], 35⟩) :: []) [some AV.nils, some (intA (4))]) else (
callW Try.prog KK.gl ((0, some ⟨[(intA a1_0), (intA a1_1)], 35⟩) :: []) 98 33 [a0] fun v2 m2 =>
opP (lenS v2) fun v3 =>
ex_i64 v3 fun z4 =>
Tri Try.prog KK 81 0 (.loop c17_0) ⟨[(0, a0), (1, (AV.agg [(intA a1_0), (intA a1_1)])), (2, (intA a2)), (4, (AV.ptr 0 0)), (6, AV.nils), (7, (intA (0))), (12, a0), (13, (intA z1)), (8, (intA z1)), (14, (intA z1)), (15, (boolA (z1 != (0)))), (17, (AV.ptr 0 0)), (18, (intA a1_0)), (19, (boolA (decide (a1_0 < (-2000000))))), (20, (boolA false)), (21, (AV.ptr 0 0)), (22, (intA a1_0)), (23, (boolA (decide (a1_0 > (2000000))))), (24, (boolA (decide (a1_0 > (2000000))))), (25, (boolA false)), (26, (AV.ptr 0 1)), (27, (intA a1_1)), (28, (boolA (decide (a1_1 < (-2000000))))), (29, (boolA (decide (a1_1 < (-2000000))))), (30, (boolA false)), (31, (AV.ptr 0 1)), (32, (intA a1_1)), (33, (boolA (decide (a1_1 > (2000000))))), (34, (boolA (decide (a1_1 > (2000000))))), (35, (boolA false)), (36, (intA a2)), (37, (boolA (decide (a2 < (-200000))))), (38, (boolA (decide (a2 < (-200000))))), (39, (boolA false)), (40, (intA a2)), (41, (boolA (decide (a2 > (200000))))), (42, (boolA (decide (a2 > (200000))))), (43, a0), (44, v2), (9, v2), (45, v2), (46, (intA z4)), (47, (intA (0)))], m2, 166⟩ (q17_0 R))))))))
theorem F17_own (a0 : AV) (a1_0 : Int) (a1_1 : Int) (a2 : Int) (R : AV → Mem → Prop) (h : F17 a0 a1_0 a1_1 a2 R) : Own Try.prog KK.gl 17 [a0, (AV.agg [(intA a1_0), (intA a1_1)]), (intA a2)] R := own_of_F fol Try.func17 (code := c17) (by kernel_rfl) (by kernel_rfl) (by kernel_rfl) (X := F17 a0 a1_0 a1_1 a2 R) (by kernel_rfl) h
/- skyway/skywaykeep3.SectorShifts -/
noncomputable def c6 : Code := ((Try.f6).body).getD .skip
noncomputable def q6 (R : AV → Mem → Prop) : AExit → St → Prop := retQ Try.prog Try.f6 R
noncomputable def c6_0 : Code := loopB c6 0
noncomputable def q6_0 (R : AV → Mem → Prop) : AExit → St → Prop := contW Try.prog KK 81 0 c6 0 (q6 R)
noncomputable def qq6_0 (R : AV → Mem → Prop) (N0 : St → Prop) : AExit → St → Prop := thenQ N0 (q6_0 R)
def h6_0 (t2 : Int) (t6 : Bool) (t9 : AV) (t10 : AV) (t51 : Int) (t52 : Int) (m : Mem) : St := ⟨[(2, (intA t2)), (6, (boolA t6)), (9, t9), (10, t10), (51, (intA t51)), (52, (intA t52))], m, 100000⟩
noncomputable def B6_0 (t2 : Int) (t6 : Bool) (t9 : AV) (t10 : AV) (t51 : Int) (t52 : Int) (m : Mem) (R : AV → Mem → Prop) (N0 : St → Prop) : Prop :=
bif (decide (t52 < t51)) then (
opP (idxS 3 t10 (intA t52)) fun v24 =>
opP (ldA (mget m) 3 v24) fun v25 =>
exA3 v25 fun c26 c27 c28 =>
ex_i64 c26 fun z29 =>
ex_i64 c27 fun z30 =>
ex_i64 c28 fun z31 =>
opP (idxS 3 t9 (intA t52)) fun v32 =>
opP (fldO 0 v32) fun v33 =>
opP (ldS (mget m) v33) fun v34 =>
ex_i64 v34 fun z35 =>
opP (idxS 3 t9 (intA t52)) fun v36 =>
opP (fldO 1 v36) fun v37 =>
opP (ldS (mget m) v37) fun v38 =>
ex_i64 v38 fun z39 =>
opP (idxS 3 t9 (intA t52)) fun v40 =>
opP (fldO 2 v40) fun v41 =>
opP (ldS (mget m) v41) fun v42 =>
ex_i64 v42 fun z43 =>
opP (bld [(intA (0)), (intA (0)), (intA (0))] [(0, 1), (1, 1), (2, 1)] [(0, (intA z35)), (1, (intA (IntKind.wrap .i64 (z39 + t2)))), (2, (intA (IntKind.wrap .i64 (z43 + t2))))]) fun v44 =>
opP (opA Try.prog (.binOp .neq 33 (.tmp 0) (.tmp 1) 33) 4 [(AV.agg [(intA z29), (intA z30), (intA z31)]), v44] (mget m) 100027) fun v45 =>
exB v45 fun b46 =>
bif b46 then (
retL R m [some (boolA false)]) else (
N0 ⟨[(2, (intA t2)), (6, (boolA t6)), (9, t9), (10, t10), (51, (intA t51)), (52, (intA (IntKind.wrap .i64 (t52 + (1))))), (53, (boolA (decide (t52 < t51)))), (54, (intA t52)), (12, (intA t52)), (55, t10), (56, (intA t52)), (57, v24), (58, (AV.agg [(intA z29), (intA z30), (intA z31)])), (59, t9), (60, (intA t52)), (61, v32), (62, v33), (63, (intA z35)), (64, t9), (65, (intA t52)), (66, v36), (67, v37), (68, (intA z39)), (69, (intA t2)), (70, (intA (IntKind.wrap .i64 (z39 + t2)))), (71, t9), (72, (intA t52)), (73, v40), (74, v41), (75, (intA z43)), (76, (intA t2)), (77, (intA (IntKind.wrap .i64 (z43 + t2)))), (78, v44), (79, (boolA b46)), (80, (intA (IntKind.wrap .i64 (t52 + (1)))))], m, 100030⟩)) else (
retL R m [some (boolA true)])
theorem B6_0_eq (t2 : Int) (t6 : Bool) (t9 : AV) (t10 : AV) (t51 : Int) (t52 : Int) (m : Mem) (R : AV → Mem → Prop) (N0 : St → Prop) : W Try.prog KK 81 0 c6_0 (h6_0 t2 t6 t9 t10 t51 t52 m) (qq6_0 R N0) = B6_0 t2 t6 t9 t10 t51 t52 m R N0 := by kernel_rfl
theorem L6_0 (R : AV → Mem → Prop) {σ : Type} (I : σ → Prop) (t2 : σ → Int) (t6 : σ → Bool) (t9 : σ → AV) (t10 : σ → AV) (t51 : σ → Int) (t52 : σ → Int) (m : σ → Mem) (μ : σ → Nat) (step : ∀ x, I x → B6_0 (t2 x) (t6 x) (t9 x) (t10 x) (t51 x) (t52 x) (m x) R (fun s' => ∃ y, I y ∧ μ y < μ x ∧ Weak KK 81 0 s' (h6_0 (t2 y) (t6 y) (t9 y) (t10 y) (t51 y) (t52 y) (m y)))) (x : σ) (hx : I x) {s : St} (hw : Weak KK 81 0 s (h6_0 (t2 x) (t6 x) (t9 x) (t10 x) (t51 x) (t52 x) (m x))) : Tri Try.prog KK 81 0 (.loop c6_0) s (q6_0 R) :=
  Tri.weak hw (Tri.loops fol I (fun x => h6_0 (t2 x) (t6 x) (t9 x) (t10 x) (t51 x) (t52 x) (m x)) μ (fun x hx => (B6_0_eq (t2 x) (t6 x) (t9 x) (t10 x) (t51 x) (t52 x) (m x) R _).mpr (step x hx)) x hx)
noncomputable def F6 (a0 : AV) (a1 : AV) (a2 : Int) (R : AV → Mem → Prop) : Prop :=
callQ Try.prog KK.gl [] 9 [] fun v0 =>
exB v0 fun b1 =>
bif (!b1) then (
retL R [] [some (boolA false)]) else (
opN (bsl 67 24 1 1 [AV.nils] [(0, a1)]) [] fun v2 m2 =>
callQ Try.prog KK.gl m2 10 [v2, (intA (1)), (intA (400))] fun v3 =>
exB v3 fun b4 =>
bif (!b4) then (
retL R m2 [some (boolA true)]) else (
opP (bld [(intA (0)), (intA (0))] [(0, 1), (1, 1)] []) fun v5 =>
callQ Try.prog KK.gl m2 17 [a1, v5, (intA a2)] fun v6 =>
exT2 v6 fun c7 c8 =>
ex_i64 c8 fun z9 =>
bif (z9 != (0)) then (
retL R m2 [some (boolA true)]) else (
callQ Try.prog KK.gl m2 11 [a0, a1] fun v10 =>
exT2 v10 fun c11 c12 =>
ex_i64 c12 fun z13 =>
callQ Try.prog KK.gl m2 11 [a0, c7] fun v14 =>
exT2 v14 fun c15 c16 =>
ex_i64 c16 fun z17 =>
bif (z13 != z17) then (
retL R m2 [some (boolA false)]) else (
opP (lenS c11) fun v18 =>
ex_i64 v18 fun z19 =>
opP (lenS c15) fun v20 =>
ex_i64 v20 fun z21 =>
bif (z19 != z21) then (
retL R m2 [some (boolA false)]) else (
opP (lenS c11) fun v22 =>
ex_i64 v22 fun z23 =>
Tri Try.prog KK 81 0 (.loop c6_0) ⟨[(0, a0), (1, a1), (2, (intA a2)), (6, (boolA false)), (13, (boolA b1)), (14, (boolA (!b1))), (15, a1), (16, v2), (17, (boolA b4)), (18, (boolA (!b4))), (20, a1), (21, v5), (22, (intA a2)), (23, (AV.tup [c7, (intA z9)])), (19, (AV.tup [c7, (intA z9)])), (24, c7), (25, (intA z9)), (7, c7), (8, (intA z13)), (26, (intA z9)), (27, (boolA (z9 != (0)))), (29, a0), (30, a1), (31, (AV.tup [c11, (intA z13)])), (28, (AV.tup [c11, (intA z13)])), (32, c11), (33, (intA z13)), (9, c11), (35, a0), (36, c7), (37, (AV.tup [c15, (intA z17)])), (34, (AV.tup [c15, (intA z17)])), (38, c15), (39, (intA z17)), (10, c15), (11, (intA z17)), (40, (intA z13)), (41, (intA z17)), (42, (boolA (z13 != z17))), (43, (boolA false)), (44, c11), (45, (intA z19)), (46, c15), (47, (intA z21)), (48, (boolA (z19 != z21))), (49, (boolA (z19 != z21))), (50, c11), (51, (intA z23)), (52, (intA (0)))], m2, 362⟩ (q6_0 R))))))
theorem F6_own (a0 : AV) (a1 : AV) (a2 : Int) (R : AV → Mem → Prop) (h : F6 a0 a1 a2 R) : Own Try.prog KK.gl 6 [a0, a1, (intA a2)] R := own_of_F fol Try.func6 (code := c6) (by kernel_rfl) (by kernel_rfl) (by kernel_rfl) (X := F6 a0 a1 a2 R) (by kernel_rfl) h
/- skyway/load.check -/
noncomputable def c40 : Code := ((Try.f40).body).getD .skip
noncomputable def q40 (R : AV → Mem → Prop) : AExit → St → Prop := retQ Try.prog Try.f40 R
noncomputable def c40_0 : Code := loopB c40 0
noncomputable def q40_0 (R : AV → Mem → Prop) : AExit → St → Prop := contW Try.prog KK 29 0 c40 0 (q40 R)
noncomputable def qq40_0 (R : AV → Mem → Prop) (N0 : St → Prop) : AExit → St → Prop := thenQ N0 (q40_0 R)
def h40_0 (t4 : Int) (t17 : AV) (t18 : Int) (t19 : Int) (m : Mem) : St := ⟨[(4, (intA t4)), (17, t17), (18, (intA t18)), (19, (intA t19))], m, 100000⟩
noncomputable def B40_0 (t4 : Int) (t17 : AV) (t18 : Int) (t19 : Int) (m : Mem) (R : AV → Mem → Prop) (N0 : St → Prop) : Prop :=
bif (decide (t19 < t18)) then (
opP (idxS 1 t17 (intA t19)) fun v6 =>
opP (ldS (mget m) v6) fun v7 =>
callQ Try.prog KK.gl m 28 [v7] fun v8 =>
ex_i64 v8 fun z9 =>
bif (z9 != (0)) then (
retL R m [some (intA z9)]) else (
N0 ⟨[(4, (intA t4)), (17, t17), (18, (intA t18)), (19, (intA (IntKind.wrap .i64 (t19 + (1))))), (20, (boolA (decide (t19 < t18)))), (21, v6), (22, v7), (7, v7), (23, v7), (24, (intA z9)), (8, (intA z9)), (25, (intA z9)), (26, (boolA (z9 != (0)))), (28, (intA (IntKind.wrap .i64 (t19 + (1)))))], m, 100074⟩)) else (
retL R m [some (intA (0))])
theorem B40_0_eq (t4 : Int) (t17 : AV) (t18 : Int) (t19 : Int) (m : Mem) (R : AV → Mem → Prop) (N0 : St → Prop) : W Try.prog KK 29 0 c40_0 (h40_0 t4 t17 t18 t19 m) (qq40_0 R N0) = B40_0 t4 t17 t18 t19 m R N0 := by kernel_rfl
theorem L40_0 (R : AV → Mem → Prop) {σ : Type} (I : σ → Prop) (t4 : σ → Int) (t17 : σ → AV) (t18 : σ → Int) (t19 : σ → Int) (m : σ → Mem) (μ : σ → Nat) (step : ∀ x, I x → B40_0 (t4 x) (t17 x) (t18 x) (t19 x) (m x) R (fun s' => ∃ y, I y ∧ μ y < μ x ∧ Weak KK 29 0 s' (h40_0 (t4 y) (t17 y) (t18 y) (t19 y) (m y)))) (x : σ) (hx : I x) {s : St} (hw : Weak KK 29 0 s (h40_0 (t4 x) (t17 x) (t18 x) (t19 x) (m x))) : Tri Try.prog KK 29 0 (.loop c40_0) s (q40_0 R) :=
  Tri.weak hw (Tri.loops fol I (fun x => h40_0 (t4 x) (t17 x) (t18 x) (t19 x) (m x)) μ (fun x hx => (B40_0_eq (t4 x) (t17 x) (t18 x) (t19 x) (m x) R _).mpr (step x hx)) x hx)
noncomputable def F40 (a0 : AV) (a1 : AV) (R : AV → Mem → Prop) : Prop :=
callQ Try.prog KK.gl [] 24 [a0] fun v0 =>
ex_i64 v0 fun z1 =>
bif (z1 != (0)) then (
retL R [] [some (intA z1)]) else (
opP (lenS a1) fun v2 =>
ex_i64 v2 fun z3 =>
bif (decide (z3 > (24))) then (
retL R [] [some (intA (2))]) else (
opP (lenS a1) fun v4 =>
ex_i64 v4 fun z5 =>
Tri Try.prog KK 29 0 (.loop c40_0) ⟨[(0, a0), (1, a1), (4, (intA (0))), (9, a0), (10, (intA z1)), (5, (intA z1)), (11, (intA z1)), (12, (boolA (z1 != (0)))), (14, a1), (15, (intA z3)), (16, (boolA (decide (z3 > (24))))), (17, a1), (18, (intA z5)), (19, (intA (0)))], [], 75⟩ (q40_0 R)))
theorem F40_own (a0 : AV) (a1 : AV) (R : AV → Mem → Prop) (h : F40 a0 a1 R) : Own Try.prog KK.gl 40 [a0, a1] R := own_of_F fol Try.func40 (code := c40) (by kernel_rfl) (by kernel_rfl) (by kernel_rfl) (X := F40 a0 a1 R) (by kernel_rfl) h
/- skyway/load.count -/
noncomputable def c41 : Code := ((Try.f41).body).getD .skip
noncomputable def q41 (R : AV → Mem → Prop) : AExit → St → Prop := retQ Try.prog Try.f41 R
noncomputable def c41_0 : Code := loopB c41 0
noncomputable def q41_0 (R : AV → Mem → Prop) : AExit → St → Prop := contW Try.prog KK 53 0 c41 0 (q41 R)
noncomputable def qq41_0 (R : AV → Mem → Prop) (N0 : St → Prop) : AExit → St → Prop := thenQ N0 (q41_0 R)
def h41_0 (t0 : AV) (t2 : Int) (t6 : AV) (t7 : Int) (t8 : AV) (t9 : Int) (t18 : AV) (t19 : Int) (t20 : Int) (m : Mem) : St := ⟨[(0, t0), (2, (intA t2)), (6, t6), (7, (intA t7)), (8, t8), (9, (intA t9)), (18, t18), (19, (intA t19)), (20, (intA t20))], m, 100000⟩
noncomputable def B41_0 (t0 : AV) (t2 : Int) (t6 : AV) (t7 : Int) (t8 : AV) (t9 : Int) (t18 : AV) (t19 : Int) (t20 : Int) (m : Mem) (R : AV → Mem → Prop) (N0 : St → Prop) : Prop :=
bif (decide (t20 < t19)) then (
opP (idxS 1 t18 (intA t20)) fun v5 =>
opP (ldS (mget m) v5) fun v6 =>
callQ Try.prog KK.gl m 20 [v6, (intA t2)] fun v7 =>
exT2 v7 fun c8 c9 =>
exA6 c8 fun c10 c11 c12 c13 c14 c15 =>
ex_i64 c10 fun z16 =>
ex_i64 c11 fun z17 =>
ex_i64 c12 fun z18 =>
ex_i64 c13 fun z19 =>
ex_i64 c14 fun z20 =>
ex_i64 c15 fun z21 =>
ex_i64 c9 fun z22 =>
bif (z22 != (0)) then (
N0 ⟨[(0, t0), (2, (intA t2)), (6, t6), (7, (intA t7)), (8, t8), (9, (intA t9)), (18, t18), (19, (intA t19)), (20, (intA (IntKind.wrap .i64 (t20 + (1))))), (21, (boolA (decide (t20 < t19)))), (22, v5), (23, v6), (11, v6), (25, v6), (26, (intA t2)), (27, (AV.tup [(AV.agg [(intA z16), (intA z17), (intA z18), (intA z19), (intA z20), (intA z21)]), (intA z22)])), (24, (AV.tup [(AV.agg [(intA z16), (intA z17), (intA z18), (intA z19), (intA z20), (intA z21)]), (intA z22)])), (28, (AV.agg [(intA z16), (intA z17), (intA z18), (intA z19), (intA z20), (intA z21)])), (29, (intA z22)), (12, (AV.ptr 100073 0)), (13, (intA z22)), (30, (intA z22)), (31, (boolA (z22 != (0)))), (50, (intA (IntKind.wrap .i64 (t20 + (1)))))], ((100073, some ⟨[(intA z16), (intA z17), (intA z18), (intA z19), (intA z20), (intA z21)], 39⟩) :: (100073, some ⟨[(intA (0)), (intA (0)), (intA (0)), (intA (0)), (intA (0)), (intA (0))], 39⟩) :: m), 100080⟩) else (
callQ Try.prog KK.gl ((100073, some ⟨[(intA z16), (intA z17), (intA z18), (intA z19), (intA z20), (intA z21)], 39⟩) :: (100073, some ⟨[(intA (0)), (intA (0)), (intA (0)), (intA (0)), (intA (0)), (intA (0))], 39⟩) :: m) 32 [t0, (AV.agg [(intA z17), (intA z18)]), (intA z19)] fun v23 =>
ex_i64 v23 fun z24 =>
bif (decide (z24 ≥ (0))) then (
opP (idxS 1 t8 (intA z24)) fun v25 =>
opP (ldS (mget ((100073, some ⟨[(intA z16), (intA z17), (intA z18), (intA z19), (intA z20), (intA z21)], 39⟩) :: (100073, some ⟨[(intA (0)), (intA (0)), (intA (0)), (intA (0)), (intA (0)), (intA (0))], 39⟩) :: m)) v25) fun v26 =>
ex_i64 v26 fun z27 =>
opP (idxS 1 t8 (intA z24)) fun v28 =>
storeW Try.prog (mget ((100073, some ⟨[(intA z16), (intA z17), (intA z18), (intA z19), (intA z20), (intA z21)], 39⟩) :: (100073, some ⟨[(intA (0)), (intA (0)), (intA (0)), (intA (0)), (intA (0)), (intA (0))], 39⟩) :: m)) 3 v28 (intA (IntKind.wrap .i64 (z27 + (1)))) fun v29 d29 =>
N0 ⟨[(0, t0), (2, (intA t2)), (6, t6), (7, (intA t7)), (8, t8), (9, (intA t9)), (18, t18), (19, (intA t19)), (20, (intA (IntKind.wrap .i64 (t20 + (1))))), (21, (boolA (decide (t20 < t19)))), (22, v5), (23, v6), (11, v6), (25, v6), (26, (intA t2)), (27, (AV.tup [(AV.agg [(intA z16), (intA z17), (intA z18), (intA z19), (intA z20), (intA z21)]), (intA z22)])), (24, (AV.tup [(AV.agg [(intA z16), (intA z17), (intA z18), (intA z19), (intA z20), (intA z21)]), (intA z22)])), (28, (AV.agg [(intA z16), (intA z17), (intA z18), (intA z19), (intA z20), (intA z21)])), (29, (intA z22)), (12, (AV.ptr 100073 0)), (13, (intA z22)), (30, (intA z22)), (31, (boolA (z22 != (0)))), (32, t0), (33, (AV.ptr 100073 0)), (34, (AV.ptr 100073 1)), (35, (AV.agg [(intA z17), (intA z18)])), (36, (AV.ptr 100073 0)), (37, (AV.ptr 100073 3)), (38, (intA z19)), (39, (intA z24)), (14, (intA z24)), (40, (intA z24)), (41, (boolA (decide (z24 ≥ (0))))), (42, t8), (43, (intA z24)), (44, v25), (45, (intA z27)), (46, (intA (IntKind.wrap .i64 (z27 + (1))))), (47, v28), (50, (intA (IntKind.wrap .i64 (t20 + (1)))))], (mpushs ((100073, some ⟨[(intA z16), (intA z17), (intA z18), (intA z19), (intA z20), (intA z21)], 39⟩) :: (100073, some ⟨[(intA (0)), (intA (0)), (intA (0)), (intA (0)), (intA (0)), (intA (0))], 39⟩) :: m) d29), 100161⟩) else (
N0 ⟨[(0, t0), (2, (intA t2)), (6, t6), (7, (intA t7)), (8, t8), (9, (intA (IntKind.wrap .i64 (t9 + (1))))), (18, t18), (19, (intA t19)), (20, (intA (IntKind.wrap .i64 (t20 + (1))))), (21, (boolA (decide (t20 < t19)))), (22, v5), (23, v6), (11, v6), (25, v6), (26, (intA t2)), (27, (AV.tup [(AV.agg [(intA z16), (intA z17), (intA z18), (intA z19), (intA z20), (intA z21)]), (intA z22)])), (24, (AV.tup [(AV.agg [(intA z16), (intA z17), (intA z18), (intA z19), (intA z20), (intA z21)]), (intA z22)])), (28, (AV.agg [(intA z16), (intA z17), (intA z18), (intA z19), (intA z20), (intA z21)])), (29, (intA z22)), (12, (AV.ptr 100073 0)), (13, (intA z22)), (30, (intA z22)), (31, (boolA (z22 != (0)))), (32, t0), (33, (AV.ptr 100073 0)), (34, (AV.ptr 100073 1)), (35, (AV.agg [(intA z17), (intA z18)])), (36, (AV.ptr 100073 0)), (37, (AV.ptr 100073 3)), (38, (intA z19)), (39, (intA z24)), (14, (intA z24)), (40, (intA z24)), (41, (boolA (decide (z24 ≥ (0))))), (48, (intA t9)), (49, (intA (IntKind.wrap .i64 (t9 + (1))))), (50, (intA (IntKind.wrap .i64 (t20 + (1)))))], ((100073, some ⟨[(intA z16), (intA z17), (intA z18), (intA z19), (intA z20), (intA z21)], 39⟩) :: (100073, some ⟨[(intA (0)), (intA (0)), (intA (0)), (intA (0)), (intA (0)), (intA (0))], 39⟩) :: m), 100157⟩))) else (
retL R m [some t8, some (intA t9)])
theorem B41_0_eq (t0 : AV) (t2 : Int) (t6 : AV) (t7 : Int) (t8 : AV) (t9 : Int) (t18 : AV) (t19 : Int) (t20 : Int) (m : Mem) (R : AV → Mem → Prop) (N0 : St → Prop) : W Try.prog KK 53 0 c41_0 (h41_0 t0 t2 t6 t7 t8 t9 t18 t19 t20 m) (qq41_0 R N0) = B41_0 t0 t2 t6 t7 t8 t9 t18 t19 t20 m R N0 := by kernel_rfl
theorem L41_0 (R : AV → Mem → Prop) {σ : Type} (I : σ → Prop) (t0 : σ → AV) (t2 : σ → Int) (t6 : σ → AV) (t7 : σ → Int) (t8 : σ → AV) (t9 : σ → Int) (t18 : σ → AV) (t19 : σ → Int) (t20 : σ → Int) (m : σ → Mem) (μ : σ → Nat) (step : ∀ x, I x → B41_0 (t0 x) (t2 x) (t6 x) (t7 x) (t8 x) (t9 x) (t18 x) (t19 x) (t20 x) (m x) R (fun s' => ∃ y, I y ∧ μ y < μ x ∧ Weak KK 53 0 s' (h41_0 (t0 y) (t2 y) (t6 y) (t7 y) (t8 y) (t9 y) (t18 y) (t19 y) (t20 y) (m y)))) (x : σ) (hx : I x) {s : St} (hw : Weak KK 53 0 s (h41_0 (t0 x) (t2 x) (t6 x) (t7 x) (t8 x) (t9 x) (t18 x) (t19 x) (t20 x) (m x))) : Tri Try.prog KK 53 0 (.loop c41_0) s (q41_0 R) :=
  Tri.weak hw (Tri.loops fol I (fun x => h41_0 (t0 x) (t2 x) (t6 x) (t7 x) (t8 x) (t9 x) (t18 x) (t19 x) (t20 x) (m x)) μ (fun x hx => (B41_0_eq (t0 x) (t2 x) (t6 x) (t7 x) (t8 x) (t9 x) (t18 x) (t19 x) (t20 x) (m x) R _).mpr (step x hx)) x hx)
noncomputable def F41 (a0 : AV) (a1 : AV) (a2 : Int) (R : AV → Mem → Prop) : Prop :=
opP (lenS a0) fun v0 =>
ex_i64 v0 fun z1 =>
opN (mks 4 3 1 8 [(intA (0))] (intA z1) (intA z1)) [] fun v2 m2 =>
opP (lenS a1) fun v3 =>
ex_i64 v3 fun z4 =>
Tri Try.prog KK 53 0 (.loop c41_0) ⟨[(0, a0), (1, a1), (2, (intA a2)), (6, AV.nils), (7, (intA (0))), (15, a0), (16, (intA z1)), (17, v2), (8, v2), (9, (intA (0))), (18, a1), (19, (intA z4)), (20, (intA (0)))], m2, 10⟩ (q41_0 R)
theorem F41_own (a0 : AV) (a1 : AV) (a2 : Int) (R : AV → Mem → Prop) (h : F41 a0 a1 a2 R) : Own Try.prog KK.gl 41 [a0, a1, (intA a2)] R := own_of_F fol Try.func41 (code := c41) (by kernel_rfl) (by kernel_rfl) (by kernel_rfl) (X := F41 a0 a1 a2 R) (by kernel_rfl) h
/- skyway/load.Count -/
noncomputable def c19 : Code := ((Try.f19).body).getD .skip
noncomputable def q19 (R : AV → Mem → Prop) : AExit → St → Prop := retQ Try.prog Try.f19 R
noncomputable def F19 (a0 : AV) (a1 : AV) (a2 : Int) (R : AV → Mem → Prop) : Prop :=
callQ Try.prog KK.gl [] 40 [a0, a1] fun v0 =>
ex_i64 v0 fun z1 =>
bif (z1 != (0)) then (
retL R [] [some AV.nils, some (intA (0)), some (intA z1)]) else (
bif (decide (a2 < (0))) then (
retL R [] [some AV.nils, some (intA (0)), some (intA (12))]) else (
bif (decide (a2 > (200000))) then (
retL R [] [some AV.nils, some (intA (0)), some (intA (12))]) else (
callW Try.prog KK.gl [] 81 41 [a0, a1, (intA a2)] fun v2 m2 =>
exT2 v2 fun c3 c4 =>
ex_i64 c4 fun z5 =>
retL R m2 [some c3, some (intA z5), some (intA (0))])))
theorem F19_own (a0 : AV) (a1 : AV) (a2 : Int) (R : AV → Mem → Prop) (h : F19 a0 a1 a2 R) : Own Try.prog KK.gl 19 [a0, a1, (intA a2)] R := own_of_F fol Try.func19 (code := c19) (by kernel_rfl) (by kernel_rfl) (by kernel_rfl) (X := F19 a0 a1 a2 R) (by kernel_rfl) h
/- skyway/skywaykeep3.LoadSums -/
noncomputable def c7 : Code := ((Try.f7).body).getD .skip
noncomputable def q7 (R : AV → Mem → Prop) : AExit → St → Prop := retQ Try.prog Try.f7 R
noncomputable def c7_0 : Code := loopB c7 0
noncomputable def q7_0 (R : AV → Mem → Prop) : AExit → St → Prop := contW Try.prog KK 66 0 c7 0 (q7 R)
noncomputable def qq7_0 (R : AV → Mem → Prop) (N0 : St → Prop) : AExit → St → Prop := thenQ N0 (q7_0 R)
def h7_0 (t1 : AV) (t2 : Int) (t6 : Bool) (t8 : Int) (t35 : AV) (t36 : Int) (t37 : Int) (m : Mem) : St := ⟨[(1, t1), (2, (intA t2)), (6, (boolA t6)), (8, (intA t8)), (35, t35), (36, (intA t36)), (37, (intA t37))], m, 100000⟩
noncomputable def c7_1 : Code := loopB c7 1
noncomputable def q7_1 (R : AV → Mem → Prop) : AExit → St → Prop := contW Try.prog KK 66 0 c7 1 (q7 R)
noncomputable def qq7_1 (R : AV → Mem → Prop) (N0 : St → Prop) : AExit → St → Prop := thenQ N0 (q7_1 R)
def h7_1 (t2 : Int) (t6 : Bool) (t8 : Int) (t47 : AV) (t48 : Int) (t49 : Int) (m : Mem) : St := ⟨[(2, (intA t2)), (6, (boolA t6)), (8, (intA t8)), (47, t47), (48, (intA t48)), (49, (intA t49))], m, 200000⟩
noncomputable def B7_0 (t1 : AV) (t2 : Int) (t6 : Bool) (t8 : Int) (t35 : AV) (t36 : Int) (t37 : Int) (m : Mem) (R : AV → Mem → Prop) (N0 : St → Prop) : Prop :=
bif (decide (t37 < t36)) then (
opP (idxS 1 t35 (intA t37)) fun v12 =>
opP (ldS (mget m) v12) fun v13 =>
ex_i64 v13 fun z14 =>
bif (decide (z14 < (0))) then (
retL R m [some (boolA false)]) else (
N0 ⟨[(1, t1), (2, (intA t2)), (6, (boolA t6)), (8, (intA (IntKind.wrap .i64 (t8 + z14)))), (35, t35), (36, (intA t36)), (37, (intA (IntKind.wrap .i64 (t37 + (1))))), (38, (boolA (decide (t37 < t36)))), (39, v12), (40, (intA z14)), (11, (intA z14)), (41, (intA z14)), (42, (boolA (decide (z14 < (0))))), (43, (intA t8)), (44, (intA z14)), (45, (intA (IntKind.wrap .i64 (t8 + z14)))), (46, (intA (IntKind.wrap .i64 (t37 + (1)))))], m, 100012⟩)) else (
opP (lenS t1) fun v15 =>
ex_i64 v15 fun z16 =>
Tri Try.prog KK 66 0 (.loop c7_1) ⟨[(1, t1), (2, (intA t2)), (6, (boolA t6)), (8, (intA t8)), (35, t35), (36, (intA t36)), (37, (intA t37)), (38, (boolA (decide (t37 < t36)))), (47, t1), (48, (intA z16)), (49, (intA (0)))], m, 100004⟩ (q7_1 R))
theorem B7_0_eq (t1 : AV) (t2 : Int) (t6 : Bool) (t8 : Int) (t35 : AV) (t36 : Int) (t37 : Int) (m : Mem) (R : AV → Mem → Prop) (N0 : St → Prop) : W Try.prog KK 66 0 c7_0 (h7_0 t1 t2 t6 t8 t35 t36 t37 m) (qq7_0 R N0) = B7_0 t1 t2 t6 t8 t35 t36 t37 m R N0 := by kernel_rfl
theorem L7_0 (R : AV → Mem → Prop) {σ : Type} (I : σ → Prop) (t1 : σ → AV) (t2 : σ → Int) (t6 : σ → Bool) (t8 : σ → Int) (t35 : σ → AV) (t36 : σ → Int) (t37 : σ → Int) (m : σ → Mem) (μ : σ → Nat) (step : ∀ x, I x → B7_0 (t1 x) (t2 x) (t6 x) (t8 x) (t35 x) (t36 x) (t37 x) (m x) R (fun s' => ∃ y, I y ∧ μ y < μ x ∧ Weak KK 66 0 s' (h7_0 (t1 y) (t2 y) (t6 y) (t8 y) (t35 y) (t36 y) (t37 y) (m y)))) (x : σ) (hx : I x) {s : St} (hw : Weak KK 66 0 s (h7_0 (t1 x) (t2 x) (t6 x) (t8 x) (t35 x) (t36 x) (t37 x) (m x))) : Tri Try.prog KK 66 0 (.loop c7_0) s (q7_0 R) :=
  Tri.weak hw (Tri.loops fol I (fun x => h7_0 (t1 x) (t2 x) (t6 x) (t8 x) (t35 x) (t36 x) (t37 x) (m x)) μ (fun x hx => (B7_0_eq (t1 x) (t2 x) (t6 x) (t8 x) (t35 x) (t36 x) (t37 x) (m x) R _).mpr (step x hx)) x hx)
noncomputable def B7_1 (t2 : Int) (t6 : Bool) (t8 : Int) (t47 : AV) (t48 : Int) (t49 : Int) (m : Mem) (R : AV → Mem → Prop) (N0 : St → Prop) : Prop :=
bif (decide (t49 < t48)) then (
opP (idxS 1 t47 (intA t49)) fun v17 =>
opP (ldS (mget m) v17) fun v18 =>
callQ Try.prog KK.gl m 20 [v18, (intA t2)] fun v19 =>
exT2 v19 fun c20 c21 =>
exA6 c20 fun c22 c23 c24 c25 c26 c27 =>
ex_i64 c22 fun z28 =>
ex_i64 c23 fun z29 =>
ex_i64 c24 fun z30 =>
ex_i64 c25 fun z31 =>
ex_i64 c26 fun z32 =>
ex_i64 c27 fun z33 =>
ex_i64 c21 fun z34 =>
bif (z34 == (0)) then (
N0 ⟨[(2, (intA t2)), (6, (boolA t6)), (8, (intA (IntKind.wrap .i64 (t8 - (1))))), (47, t47), (48, (intA t48)), (49, (intA (IntKind.wrap .i64 (t49 + (1))))), (50, (boolA (decide (t49 < t48)))), (51, v17), (52, v18), (13, v18), (54, v18), (55, (intA t2)), (56, (AV.tup [(AV.agg [(intA z28), (intA z29), (intA z30), (intA z31), (intA z32), (intA z33)]), (intA z34)])), (53, (AV.tup [(AV.agg [(intA z28), (intA z29), (intA z30), (intA z31), (intA z32), (intA z33)]), (intA z34)])), (57, (AV.agg [(intA z28), (intA z29), (intA z30), (intA z31), (intA z32), (intA z33)])), (58, (intA z34)), (14, (AV.ptr 200073 0)), (15, (intA z34)), (59, (intA z34)), (60, (boolA (z34 == (0)))), (61, (intA t8)), (62, (intA (IntKind.wrap .i64 (t8 - (1))))), (63, (intA (IntKind.wrap .i64 (t49 + (1)))))], ((200073, some ⟨[(intA z28), (intA z29), (intA z30), (intA z31), (intA z32), (intA z33)], 39⟩) :: (200073, some ⟨[(intA (0)), (intA (0)), (intA (0)), (intA (0)), (intA (0)), (intA (0))], 39⟩) :: m), 200083⟩) else (
N0 ⟨[(2, (intA t2)), (6, (boolA t6)), (8, (intA t8)), (47, t47), (48, (intA t48)), (49, (intA (IntKind.wrap .i64 (t49 + (1))))), (50, (boolA (decide (t49 < t48)))), (51, v17), (52, v18), (13, v18), (54, v18), (55, (intA t2)), (56, (AV.tup [(AV.agg [(intA z28), (intA z29), (intA z30), (intA z31), (intA z32), (intA z33)]), (intA z34)])), (53, (AV.tup [(AV.agg [(intA z28), (intA z29), (intA z30), (intA z31), (intA z32), (intA z33)]), (intA z34)])), (57, (AV.agg [(intA z28), (intA z29), (intA z30), (intA z31), (intA z32), (intA z33)])), (58, (intA z34)), (14, (AV.ptr 200073 0)), (15, (intA z34)), (59, (intA z34)), (60, (boolA (z34 == (0)))), (63, (intA (IntKind.wrap .i64 (t49 + (1)))))], ((200073, some ⟨[(intA z28), (intA z29), (intA z30), (intA z31), (intA z32), (intA z33)], 39⟩) :: (200073, some ⟨[(intA (0)), (intA (0)), (intA (0)), (intA (0)), (intA (0)), (intA (0))], 39⟩) :: m), 200080⟩)) else (
retL R m [some (boolA (t8 == (0)))])
theorem B7_1_eq (t2 : Int) (t6 : Bool) (t8 : Int) (t47 : AV) (t48 : Int) (t49 : Int) (m : Mem) (R : AV → Mem → Prop) (N0 : St → Prop) : W Try.prog KK 66 0 c7_1 (h7_1 t2 t6 t8 t47 t48 t49 m) (qq7_1 R N0) = B7_1 t2 t6 t8 t47 t48 t49 m R N0 := by kernel_rfl
theorem L7_1 (R : AV → Mem → Prop) {σ : Type} (I : σ → Prop) (t2 : σ → Int) (t6 : σ → Bool) (t8 : σ → Int) (t47 : σ → AV) (t48 : σ → Int) (t49 : σ → Int) (m : σ → Mem) (μ : σ → Nat) (step : ∀ x, I x → B7_1 (t2 x) (t6 x) (t8 x) (t47 x) (t48 x) (t49 x) (m x) R (fun s' => ∃ y, I y ∧ μ y < μ x ∧ Weak KK 66 0 s' (h7_1 (t2 y) (t6 y) (t8 y) (t47 y) (t48 y) (t49 y) (m y)))) (x : σ) (hx : I x) {s : St} (hw : Weak KK 66 0 s (h7_1 (t2 x) (t6 x) (t8 x) (t47 x) (t48 x) (t49 x) (m x))) : Tri Try.prog KK 66 0 (.loop c7_1) s (q7_1 R) :=
  Tri.weak hw (Tri.loops fol I (fun x => h7_1 (t2 x) (t6 x) (t8 x) (t47 x) (t48 x) (t49 x) (m x)) μ (fun x hx => (B7_1_eq (t2 x) (t6 x) (t8 x) (t47 x) (t48 x) (t49 x) (m x) R _).mpr (step x hx)) x hx)
noncomputable def F7 (a0 : AV) (a1 : AV) (a2 : Int) (R : AV → Mem → Prop) : Prop :=
callQ Try.prog KK.gl [] 18 [] fun v0 =>
exB v0 fun b1 =>
bif (!b1) then (
retL R [] [some (boolA false)]) else (
callW Try.prog KK.gl [] 69 19 [a0, a1, (intA a2)] fun v2 m2 =>
exT3 v2 fun c3 c4 c5 =>
ex_i64 c4 fun z6 =>
ex_i64 c5 fun z7 =>
bif (z7 != (0)) then (
opP (lenS c3) fun v8 =>
ex_i64 v8 fun z9 =>
bif (z9 == (0)) then (
retL R m2 [some (boolA (z6 == (0)))]) else (
retL R m2 [some (boolA false)])) else (
opP (lenS c3) fun v10 =>
ex_i64 v10 fun z11 =>
Tri Try.prog KK 66 0 (.loop c7_0) ⟨[(0, a0), (1, a1), (2, (intA a2)), (6, (boolA false)), (16, (boolA b1)), (17, (boolA (!b1))), (19, a0), (20, a1), (21, (intA a2)), (22, (AV.tup [c3, (intA z6), (intA z7)])), (18, (AV.tup [c3, (intA z6), (intA z7)])), (23, c3), (24, (intA z6)), (25, (intA z7)), (7, c3), (8, (intA z6)), (9, (intA z7)), (26, (intA z7)), (27, (boolA (z7 != (0)))), (35, c3), (36, (intA z11)), (37, (intA (0)))], m2, 145⟩ (q7_0 R)))
theorem F7_own (a0 : AV) (a1 : AV) (a2 : Int) (R : AV → Mem → Prop) (h : F7 a0 a1 a2 R) : Own Try.prog KK.gl 7 [a0, a1, (intA a2)] R := own_of_F fol Try.func7 (code := c7) (by kernel_rfl) (by kernel_rfl) (by kernel_rfl) (X := F7 a0 a1 a2 R) (by kernel_rfl) h
/- slices.Clone[skyway/api.Tube,skyway/api.TubeNode] -/
noncomputable def c33 : Code := ((Try.f33).body).getD .skip
noncomputable def q33 (R : AV → Mem → Prop) : AExit → St → Prop := retQ Try.prog Try.f33 R
noncomputable def F33 (a0 : AV) (R : AV → Mem → Prop) : Prop :=
nilK a0 fun b0 =>
bif b0 then (
retL R [] [some AV.nils]) else (
opN (bsl 3 39 6 0 [(intA (0)), (intA (0)), (intA (0)), (intA (0)), (intA (0)), (intA (0))] []) [] fun v2 m2 =>
opN (app (mget m2) 39 6 48 [(intA (0)), (intA (0)), (intA (0)), (intA (0)), (intA (0)), (intA (0))] 5 v2 a0) m2 fun v3 m3 =>
retL R m3 [some v3])
theorem F33_own (a0 : AV) (R : AV → Mem → Prop) (h : F33 a0 R) : Own Try.prog KK.gl 33 [a0] R := own_of_F fol Try.func33 (code := c33) (by kernel_rfl) (by kernel_rfl) (by kernel_rfl) (X := F33 a0 R) (by kernel_rfl) h
end Go.Proofs.Ytldiackagnjlgaa
