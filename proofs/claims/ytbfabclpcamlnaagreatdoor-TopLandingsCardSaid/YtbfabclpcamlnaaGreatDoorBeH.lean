/- A part. -/
import Derived.Test.YtbfabclpcamlnaaGreatDoorTlD
import Derived.Test.YtbfabclpcamlnaaGreatDoorTlA
set_option linter.unusedVariables false
set_option linter.unusedSimpArgs false
namespace Go.Proofs.YtbfabclpcamlnaaGreatDoor
open Go.RowKit Go.Shelf
def eZ (w : World) (r : List Int × List Int × Int) (e : Ending) (w' : World) : Prop := ∃ v1 v2, e = .returned (.tuple #[v1, v2, .int .i64 r.2.2]) ∧ Kept w w' ∧
  ((r.1 = [] ∧ r.2.1 = [] ∧ v1 = .slice none 0 0 ∧ v2 = .slice none 0 0) ∨ (r.1 ≠ [] ∧ r.2.1 ≠ [] ∧ ∃ b, w.heap.size ≤ b ∧ wE w' b v2 r.2.1 ∧ Bb (Fx (fun k => k < w.heap.size ∨ k = b) w') (Am A2 r.1) v1))
theorem aR {α : Type} {E : En α} {c : Cx} {o : List α} {v : Value} (hr : Bb c (Am E o) v) : ∃ a cap, v = .slice a o.length cap := by
  unfold Am at hr
  generalize hcs : Ay E o = cs at hr
  generalize hq : o.length = q at hr
  cases hr with
  | D6 a cap ex he hm hn => exact ⟨_, _, rfl⟩
  | Dm hb h hc hn he hm => exact ⟨_, _, rfl⟩
theorem Aaf {c : Cx} {x : List Int} {z : Int} {v : Value} (h : Bb c (.tup [Am A2 x, Aa z]) v) : ∃ a cap, v = .tuple #[.slice a x.length cap, .int .i64 z] ∧ Bb c (Am A2 x) (.slice a x.length cap) := by
  cases h with
  | tup h =>
    cases h with
    | cons h1 t =>
      cases t with
      | cons h2 t =>
        cases t
        obtain ⟨a, cap, rfl⟩ := Kz h1
        obtain rfl := K4 h2
        exact ⟨a, cap, rfl, h1⟩
theorem Bx.new (w : World) (T : TypeId) (v : Value) : Bx (w.alloc (.cells #[v] T)) w.heap.size T v := World.alloc_heap_new _ _
theorem Bx.alloc {w : World} {b : Nat} {T : TypeId} {v : Value} (h : Bx w b T v) (o : Obj) : Bx (w.alloc o) b T v := (Below.heap_alloc w o b (B1 h)).trans h
theorem Bx.kept {w w' : World} {b : Nat} {T : TypeId} {v : Value} (h : Bx w b T v) (k : Kept w w') : Bx w' b T v := (k.Bh b (B1 h)).trans h
theorem Kept.al {w w' : World} (h : Kept w w') (o : Obj) : Kept w (w'.alloc o) := h.trans (Kept.alloc _ _)
theorem Kept.set {w w' : World} (h : Kept w w') (a : Addr) (ha : w.heap.size ≤ a.block) (v : Value) : Kept w (w'.setCell a v) :=
  ⟨h.os, h.tape, h.output, by have := h.size; simpa using this, fun k hk => by rw [Below.heap_setCell _ _ _ _ (by omega)]; exact h.Bh k hk, h.drawn⟩
set_option maxRecDepth 100000 in
set_option maxHeartbeats 8000000 in
theorem Zj {w : World} {n : Nat} {l : List Ad} {t : Ao} {most : Int} {r : List Int × List Int × Int} (h : g6 n l t most = some r) {lv : Value} (hgw : B2 KK.gl (Fx (fun _ => False) w)) (hl : Bb (Fx (fun _ => False) w) (Am Ad.E l) lv) :
    Calls Tryz.prog 6 #[lv, .agg #[.int .i64 t.Cf, .int .i64 t.Ce, .int .i64 t.Ci, .int .i64 t.Cn, .int .i64 t.Cd, .int .i64 t.Cl, .int .i64 t.Cr, .int .i64 t.Co, .int .i64 t.Cm, .int .i64 t.Ck, .int .i64 t.Ch, .int .i64 t.Cg, .int .i64 t.Cb, .int .i64 t.Cj, .int .i64 t.Cq, .int .i64 t.Cp], .int .i64 most] w (eZ w r) := by
  obtain ⟨la, lc, rfl⟩ := aR hl
  generalize hln : l.length = L at hl
  obtain ⟨V0, hV0⟩ : ∃ V0, ((w.alloc (.cells #[.slice la L lc] 22)).alloc (.cells #[.int .i64 t.Cf, .int .i64 t.Ce, .int .i64 t.Ci, .int .i64 t.Cn, .int .i64 t.Cd, .int .i64 t.Cl, .int .i64 t.Cr, .int .i64 t.Co, .int .i64 t.Cm, .int .i64 t.Ck, .int .i64 t.Ch, .int .i64 t.Cg, .int .i64 t.Cb, .int .i64 t.Cj, .int .i64 t.Cq, .int .i64 t.Cp] 25)).alloc (.cells #[.int .i64 most] 3) = V0 := ⟨_, rfl⟩
  have hK0 : Kept w V0 := by rw [← hV0]; exact (((Kept.refl _).al _).al _).al _
  have hs0 : V0.heap.size = w.heap.size + 3 := by rw [← hV0]; simp
  have g1 : Bx V0 w.heap.size 22 (.slice la L lc) := by rw [← hV0]; exact ((Bx.new _ _ _).alloc _).alloc _
  have g2 : V0.heap[w.heap.size + 1]? = some (.cells (Rl t) 25 (0, 0)) := by
    rw [← hV0]
    refine (Below.heap_alloc _ _ _ (by simp)).trans ?_
    have := World.alloc_heap_new (w.alloc (.cells #[.slice la L lc] 22)) (.cells (Rl t) 25)
    rwa [World.size_alloc] at this
  have g3 : Bx V0 (w.heap.size + 1 + 1) 3 (.int .i64 most) := by
    rw [← hV0]
    have := Bx.new ((w.alloc (.cells #[.slice la L lc] 22)).alloc (.cells (Rl t) 25)) 3 (.int .i64 most)
    rwa [World.size_alloc, World.size_alloc] at this
  have c1 := g1.cell
  unfold g6 at h
  obtain ⟨⟨nat, e1⟩, hq, h⟩ := Option.bind_eq_some_iff.1 h
  simp only at h
  have hc1 := Nf (Ad1 hq) (no := fun _ => False) (fun _ h => h.elim) (hgw.Ms (hK0.Ms _)) (.cons ((hK0.Ms _).rel hl (Ct _ _)) .nil) V0 (Kept.refl _)
  have fin : ∀ (z : Int) (w' : World), Kept w w' → r = ([], [], z) → eZ w r (.returned (.tuple #[.slice none 0 0, .slice none 0 0, .int .i64 z])) w' := fun z w' hk e => by
    subst e
    exact ⟨_, _, rfl, hk, .inl ⟨rfl, rfl, rfl, rfl⟩⟩
  go_enter Tryz.func6, Tryz.ntmps6
  go_wp2_with fail
  refine hc1.mono ?_
  rintro e w1 ⟨v1, rfl, hk1, hv1⟩
  obtain ⟨na, nc, rfl, hv2⟩ := Aaf hv1
  obtain ⟨V1, hV1⟩ : ∃ V1, w1.alloc (.cells #[.slice na nat.length nc] 29) = V1 := ⟨_, rfl⟩
  have hK1 : Kept V0 V1 := by rw [← hV1]; exact hk1.al _
  have k1 := g1.kept hK1
  have k2 : V1.heap[w.heap.size + 1]? = some (.cells (Rl t) 25 (0, 0)) := (hK1.Bh _ (B1 g2)).trans g2
  have k3 := g3.kept hK1
  have k4 : Bx V1 w1.heap.size 29 (.slice na nat.length nc) := by rw [← hV1]; exact Bx.new _ _ _
  have hs1 : V1.heap.size = w1.heap.size + 1 := by rw [← hV1]; simp
  have hvn : Bb (Fx (fun _ => False) V1) (Am A2 nat) (.slice na nat.length nc) := by
    rw [← hV1]; exact ((Kept.alloc w1 _).Ms _).rel hv2 (Ct _ _)
  have hlV := ((hK0.trans hK1).Ms (fun _ => False)).rel hl (Ct _ _)
  clear hv1 hv2 hc1 c1
  have c1 := k1.cell
  have c3 := k3.cell
  have c4 := k4.cell
  have ht0 : ∀ k u, (Rl t)[k]? = some u → V1.cell? ⟨w.heap.size + 1, k, none⟩ = some u := fun k u hu => by simp [World.cell?, k2, hu]
  have t0 := ht0 0 _ rfl; have t1 := ht0 1 _ rfl; have t2 := ht0 2 _ rfl; have t3 := ht0 3 _ rfl; have t4 := ht0 4 _ rfl; have t5 := ht0 5 _ rfl; have t6 := ht0 6 _ rfl; have t7 := ht0 7 _ rfl
  have t8 := ht0 8 _ rfl; have t9 := ht0 9 _ rfl; have t10 := ht0 10 _ rfl; have t11 := ht0 11 _ rfl; have t12 := ht0 12 _ rfl; have t13 := ht0 13 _ rfl; have t14 := ht0 14 _ rfl; have t15 := ht0 15 _ rfl
  clear ht0
  by_cases he1 : e1 = 0
  case neg =>
    have hb : (e1 != 0) = true := bne_iff_ne.2 he1
    rw [hb, cond_true] at h
    have hfin := fun w' hk => fin e1 w' hk (Option.some.inj h).symm
    go_wp2_with fail
    refine bodyPost_ret (results_tmp3 rfl _ _ _) rfl ?_
    exact hfin _ (hK0.trans hK1)
  subst he1
  rw [show ((0 : Int) != 0) = false from rfl, cond_false] at h
  obtain ⟨e2, hz, h⟩ := Option.bind_eq_some_iff.1 h
  have hc2 := Nf (yI hz) (no := fun _ => False) (fun _ h => h.elim) (hgw.Ms ((hK0.trans hK1).Ms _)) (.cons (Vw _ t) .nil) V1 (Kept.refl _)
  go_wp2_with fail
  refine hc2.mono ?_
  rintro e w2 ⟨v2, rfl, hK2, hv3⟩
  obtain rfl := K4 hv3
  clear hv3 hc2 t0 t1 t2 t3 t4 t5 t6 t7 t8 t9 t10 t11 t12 t13 t14 t15
  by_cases he2 : e2 = 0
  case neg =>
    have hb : (e2 != 0) = true := bne_iff_ne.2 he2
    rw [hb, cond_true] at h
    have hfin := fun w' hk => fin e2 w' hk (Option.some.inj h).symm
    go_wp2_with fail
    refine bodyPost_ret (results_tmp3 rfl _ _ _) rfl ?_
    exact hfin _ ((hK0.trans hK1).trans hK2)
  subst he2
  rw [show ((0 : Int) != 0) = false from rfl, cond_false] at h
  have q1 := k1.kept hK2
  have q2 : w2.heap[w.heap.size + 1]? = some (.cells (Rl t) 25 (0, 0)) := (hK2.Bh _ (B1 k2)).trans k2
  have q3 := k3.kept hK2
  have q4 := k4.kept hK2
  clear c1 c3 c4
  have c1 := q1.cell
  have c3 := q3.cell
  have c4 := q4.cell
  by_cases hm0 : most < 0
  · have hd : decide (most < 0) = true := decide_eq_true hm0
    rw [hd, cond_true] at h
    have hfin := fun w' hk => fin 4 w' hk (Option.some.inj h).symm
    go_wp2_with fail
    refine bodyPost_ret (results_tmp3 rfl _ _ _) rfl ?_
    exact hfin _ ((hK0.trans hK1).trans hK2)
  have hd : decide (most < 0) = false := decide_eq_false hm0
  rw [hd, cond_false] at h
  by_cases hm8 : 8 < most
  · have hd8 : decide (8 < most) = true := decide_eq_true hm8
    rw [show decide (most > 8) = true from hd8, cond_true] at h
    have hfin := fun w' hk => fin 4 w' hk (Option.some.inj h).symm
    go_wp2_with fail
    refine bodyPost_ret (results_tmp3 rfl _ _ _) rfl ?_
    exact hfin _ ((hK0.trans hK1).trans hK2)
  have hd8 : decide (8 < most) = false := decide_eq_false hm8
  rw [show decide (most > 8) = false from hd8, cond_false, hln] at h
  by_cases hL : L = 0
  · rw [show (L == 0) = true from beq_iff_eq.2 hL, cond_true] at h
    have hL2 : ((L : Int) == 0) = true := by simp [hL]
    have hfin := fun w' hk => fin 0 w' hk (Option.some.inj h).symm
    clear hL
    go_wp2_with fail
    refine bodyPost_ret (results_tmp3 rfl _ _ _) rfl ?_
    exact hfin _ ((hK0.trans hK1).trans hK2)
  rw [show (L == 0) = false from beq_eq_false_iff_ne.2 hL, cond_false] at h
  have hL2 : ((L : Int) == 0) = false := by simp; omega
  split at h
  case isFalse => cases h
  rename_i hL8
  obtain ⟨s, hs, h⟩ := Option.bind_eq_some_iff.1 h
  obtain ⟨V3, hV3⟩ : ∃ V3, (((w2.alloc (.cells #[.slice none 0 0] 29)).alloc (.cells #[.slice none 0 0] 29)).alloc (.cells #[.int .i64 0] 3)).alloc (.cells #[.int .i64 0] 3) = V3 := ⟨_, rfl⟩
  have hK3 : Kept w2 V3 := by rw [← hV3]; exact ((((Kept.refl _).al _).al _).al _).al _
  have hs3 : V3.heap.size = w2.heap.size + 4 := by rw [← hV3]; simp
  have r1 := q1.kept hK3
  have r2 : V3.heap[w.heap.size + 1]? = some (.cells (Rl t) 25 (0, 0)) := (hK3.Bh _ (B1 q2)).trans q2
  have r3 := q3.kept hK3
  have r4 := q4.kept hK3
  have d1 : Bx V3 w2.heap.size 29 (.slice none 0 0) := by rw [← hV3]; exact (((Bx.new _ _ _).alloc _).alloc _).alloc _
  have d2 : Bx V3 (w2.heap.size + 1) 29 (.slice none 0 0) := by
    rw [← hV3]
    have := Bx.new (w2.alloc (.cells #[.slice none 0 0] 29)) 29 (.slice none 0 0)
    rw [World.size_alloc] at this
    exact (this.alloc _).alloc _
  have d3 : Bx V3 (w2.heap.size + 1 + 1) 3 (.int .i64 0) := by
    rw [← hV3]
    have := Bx.new ((w2.alloc (.cells #[.slice none 0 0] 29)).alloc (.cells #[.slice none 0 0] 29)) 3 (.int .i64 0)
    rw [World.size_alloc, World.size_alloc] at this
    exact this.alloc _
  have d4 : Bx V3 (w2.heap.size + 1 + 1 + 1) 3 (.int .i64 0) := by
    rw [← hV3]
    have := Bx.new (((w2.alloc (.cells #[.slice none 0 0] 29)).alloc (.cells #[.slice none 0 0] 29)).alloc (.cells #[.int .i64 0] 3)) 3 (.int .i64 0)
    rwa [World.size_alloc, World.size_alloc, World.size_alloc] at this
  have c1' := r1.cell
  have hKw : Kept w V3 := ((hK0.trans hK1).trans hK2).trans hK3
  obtain ⟨no, hno⟩ : ∃ no : Nat → Prop, ∀ k, no k ↔ w2.heap.size ≤ k ∧ k < w2.heap.size + 4 := ⟨_, fun _ => Iff.rfl⟩
  obtain ⟨no2, hno2⟩ : ∃ no2 : Nat → Prop, ∀ k, no2 k ↔ k < w.heap.size ∨ no k := ⟨_, fun _ => Iff.rfl⟩
  have hG3 : B2 KK.gl (Fx no V3) := (hgw.no (fun k q => by have := (hno k).1 q; have := (hK0.trans (hK1.trans hK2)).size; omega)).Ms (hKw.Ms no)
  have h12 : ∀ k, no k → no2 k := fun k q => (hno2 k).2 (.inr q)
  have hsz := hKw.size
  have hsz1 := hK0.size
  have hsz2 := hK1.size
  have hsz3 := hK2.size
  have hn3 : ∀ b, no2 b → b < V3.heap.size := fun b hb => by
    rcases (hno2 b).1 hb with q | q
    · omega
    · have := (hno b).1 q; omega
  have hE3 : Pm no w.heap.size (w.heap.size + 1) w1.heap.size (w.heap.size + 1 + 1) l t nat most V3 := by
    refine ⟨fun q => ?_, fun q => ?_, fun q => ?_, fun q => ?_, ⟨_, r1, ?_⟩, r2, ⟨_, r4, ?_⟩, r3⟩
    · have := (hno _).1 q; omega
    · have := (hno _).1 q; omega
    · have := (hno _).1 q; omega
    · have := (hno _).1 q; omega
    · exact (hKw.Ms no).rel (Ox hl (Ct _ _) (fun k hk q => by have := (hno k).1 q; omega)) (Ct _ _)
    · exact ((hK2.trans hK3).Ms no).rel (Ox hvn (Ct _ _) (fun k hk q => by have := (hno k).1 q; omega)) (Ct _ _)
  have hB3 : BJ w2.heap.size no2 none V3 := ⟨by omega, _, _, 0, 0, d1, d2, d3, d4, .inl ⟨rfl, rfl⟩⟩
  have hord := callsIn_wide.1 (Tv (N := L) hL8 (no := no2) (caps := #[.pointer (some ⟨w.heap.size, 0, none⟩), .pointer (some ⟨w.heap.size + 1, 0, none⟩), .pointer (some ⟨w1.heap.size, 0, none⟩), .pointer (some ⟨w.heap.size + 1 + 1, 0, none⟩), .pointer (some ⟨w2.heap.size, 0, none⟩), .pointer (some ⟨w2.heap.size + 1 + 1, 0, none⟩), .pointer (some ⟨w2.heap.size + 1 + 1 + 1, 0, none⟩), .pointer (some ⟨w2.heap.size + 1, 0, none⟩)])
    (vis := jQ n l t nat most) (J := fun s W => BJ w2.heap.size no2 s W ∧ Pm no w.heap.size (w.heap.size + 1) w1.heap.size (w.heap.size + 1 + 1) l t nat most W ∧ Mm no V3 W)
    (fun s A B ⟨j1, j2, j3⟩ hk => ⟨j1.kept hk, j2.step (hk.Ms no), j3.trans (hk.Ms no)⟩) h12 (fun s W ⟨j1, j2, j3⟩ => hG3.Ms j3)
    (fun o i ho => Acp (contains_eq 10 o i (by omega) (by omega)))
    (fun m s r o v W ho hn hr ⟨j1, j2, j3⟩ hv => callsIn_wide.2 ((pB h12 hno n s r o v W (hG3.Ms j3) (by rintro rfl; simp at ho; omega) (by omega) (fun b hb => hn b (h12 b hb)) hr j1 j2 hv).mono fun e w' ⟨p1, ⟨p2, p3⟩, p4⟩ => ⟨p1, ⟨p2, p3, j3.trans p4⟩, p4.mono h12⟩))
    L 0 [] none s (.slice none 0 0) V3 (by simp) hn3 (.D6 none 0 _ (fun _ => rfl) (Nat.zero_le _) (fun _ => rfl)) ⟨hB3, hE3, Mm.refl _ _⟩ hs)
  clear hs hB3 hE3 d1 d2 d3 d4
  rw [← hV3] at c1'
  have HV3 := Lib.hid hV3
  clear hV3
  go_wp2_with fail
  rw [HV3.out]
  refine hord.mono ?_
  rintro e w4 ⟨rfl, ⟨⟨hDs, bv, av, e0, z0, m1, m2, m3, m4, hst⟩, hE4, hKn4⟩, -⟩
  have hK4 : Kept w w4 := hKn4.kept (by omega) (fun k q => by have := (hno k).1 q; omega) hKw
  clear c1 c3 c4 c1' hord
  have n1 := m1.cell
  have n2 := m2.cell
  rcases hst with ⟨rfl, rfl⟩ | ⟨o', x', rfl, ho', hx', b', hb', hrx, hrel'⟩
  · have hq := fun wx => Lib.run_eql_slice_nil (P := Tryz.prog) wx 29 3 none 0 0 0 0 Tryz.underlying29
    simp only [Option.isNone] at hq
    have hfin := fun w' hk => fin 8 w' hk (Option.some.inj h).symm
    go_wp2_with fail
    refine bodyPost_ret (results_tmp3 rfl _ _ _) rfl ?_
    exact hfin _ hK4
  · have hrel0 := hrel'
    obtain ⟨bq, oq, cq, rfl, -⟩ := Na hrel' ho'
    have hq := fun wx => Lib.run_eql_slice_nil (P := Tryz.prog) wx 29 3 (some ⟨bq, oq, none⟩) o'.length cq 0 0 Tryz.underlying29
    simp only [Option.isNone] at hq
    have hrx0 := Lib.hid hrx
    have hre0 := Lib.hid hrel0
    have hr0 : r = (o', x', 0) := (Option.some.inj h).symm
    clear hrx hrel' hrel0
    go_wp2_with fail
    go_quiet (fail)
    go_wp2
    refine bodyPost_ret (results_tmp3 rfl _ _ _) rfl ?_
    subst hr0
    refine ⟨_, _, rfl, hK4.drewN _, .inr ⟨ho', hx', b', by omega, hrx0.out, ?_⟩⟩
    exact Ox ((((Kept.refl w4).drewN _).Ms _).rel hre0.out (Ct _ _)) (Ct _ _) (fun k _ q => q.elim (fun q => .inl ((hno2 k).2 (.inl q))) .inr)
theorem jC {B : Nat} {c : Cx} (g : Good B c) {k : Nat} (hn : ¬ c.al k) {r : List Int × List Int × Int} {e : Ending} {w' : World} (h : eZ c.w r e w') : Dq B c k (.tup [Am A2 r.1, B5 A2 k r.2.1, Aa r.2.2]) [(k, Cs A2 3 r.2.1)] e w' := by
  obtain ⟨v1, v2, rfl, hk, hc⟩ := h
  have hnone : c.M k = none := by
    cases q : c.M k with
    | none => rfl
    | some b => exact absurd (g.low k b q).2 hn
  rcases hc with ⟨h1, h2, rfl, rfl⟩ | ⟨h1, h2, b, hb, ⟨cap, arr, rest, rfl, q2, q3, q4, q5, q6⟩, hrel⟩
  · rw [h1, h2]
    refine ⟨_, { c with w := w' }, rfl, rfl, .tup (vs := [.slice none 0 0, .slice none 0 0, .int .i64 r.2.2]) (.cons (.D6 none 0 _ (fun _ => rfl) (Nat.zero_le _) (fun _ => rfl)) (.cons (.D6 none 0 _ (fun _ => rfl) (Nat.zero_le _) (fun _ => rfl)) (.cons (.sc _ rfl) .nil))), S5 hk, gN g hk, fun id => ?_, fun id h => .inl h, fun id h => h⟩
    show c.M id = P4 c.M [(k, none)] id
    simp only [P4]
    by_cases q : id = k
    · subst q; simp [hnone]
    · simp [q]
  · have hsz := hk.size
    have hlt := B1 q2
    obtain ⟨c', hc'⟩ : ∃ c' : Cx, c' = ⟨w', fun id => if id = k then b else c.f id, fun id => c.al id ∨ id = k, fun id => if id = k then some ⟨Ay A2 r.2.1, 3⟩ else c.M id, c.no⟩ := ⟨_, rfl⟩
    have hM : ∀ id, c'.M id = if id = k then some ⟨Ay A2 r.2.1, 3⟩ else c.M id := fun id => by rw [hc']
    have hf : ∀ id, c'.f id = if id = k then b else c.f id := fun id => by rw [hc']
    have hw : c'.w = w' := by rw [hc']
    have hno : c'.no = c.no := by rw [hc']
    have hal : ∀ id, c'.al id ↔ c.al id ∨ id = k := fun id => by rw [hc']
    have own' : ∀ q, c'.own q → q = b ∨ c.own q := by
      rintro q ⟨id, bk, p1, p2⟩
      rw [hM] at p1; rw [hf] at p2
      by_cases e : id = k
      · rw [if_pos e] at p2; exact .inl p2.symm
      · rw [if_neg e] at p1 p2; exact .inr ⟨id, bk, p1, p2⟩
    have stp : Step c c' := by
      refine ⟨by rw [hw]; exact hk.os, by rw [hw]; exact hk.tape, by rw [hw]; exact hk.output, by rw [hw]; exact hsz, fun q hq _ => by rw [hw]; exact hk.Bh q hq, fun q hq ho => (own' q ho).elim (fun e => by omega) id, fun id h => ?_, fun id h => (hal id).2 (.inl h), fun q => by rw [hno], fun q arr T h => ⟨arr, by rw [hw]; exact (hk.Bh q (B1 h)).trans h, rfl⟩, by rw [hw]; exact hk.drawn⟩
      rw [hf, if_neg (by rintro rfl; exact hn h)]
    have hgood : Good B c' := by
      refine ⟨by rw [hw]; exact Nat.le_trans g.hB hsz, fun id bk h => ?_, fun id bk h => ?_, fun q h => g.Iq q (by rw [hno] at h; exact h), fun i j bi bj h h' hf' => ?_⟩
      · rw [hM] at h
        by_cases e : id = k
        · subst e
          rw [hf, if_pos rfl]
          exact ⟨Nat.le_trans g.hB hb, (hal _).2 (.inr rfl)⟩
        · rw [if_neg e] at h
          rw [hf, if_neg e]
          exact ⟨(g.low id bk h).1, (hal _).2 (.inl (g.low id bk h).2)⟩
      · rw [hM] at h
        by_cases e : id = k
        · subst e
          rw [if_pos rfl] at h
          cases h
          rw [hf, if_pos rfl, hw]
          refine ⟨arr, r.2.1.map (Value.int .i64), rest, q2, q3, ?_⟩
          have : ∀ r : List Int, Bf c' (Ay A2 r) (r.map (Value.int .i64)) := by
            intro r
            induction r with
            | nil => exact .nil
            | cons x r ih => rw [Da]; exact .cons (.sc _ rfl) ih
          exact this _
        · rw [if_neg e] at h
          rw [hf, if_neg e, hw]
          obtain ⟨a, vs, rs, p1, p2, p3⟩ := g.Bh id bk h
          exact ⟨a, vs, rs, (hk.Bh _ (B1 p1)).trans p1, p2, p3.step stp⟩
      · rw [hM] at h h'
        rw [hf, hf] at hf'
        by_cases e1 : i = k
        · by_cases e2 : j = k
          · rw [e1, e2]
          · rw [if_pos e1, if_neg e2] at hf'
            rw [if_neg e2] at h'
            have := g.lt h'
            omega
        · rw [if_neg e1] at h
          by_cases e2 : j = k
          · rw [if_neg e1, if_pos e2] at hf'
            have := g.lt h
            omega
          · rw [if_neg e1, if_neg e2] at hf'
            rw [if_neg e2] at h'
            exact g.inj i j bi bj h h' hf'
    rw [Dx h2, C1 h2]
    refine ⟨_, c', rfl, hw, .tup (vs := [v1, .slice (some ⟨b, 0, none⟩) r.2.1.length cap, .int .i64 r.2.2]) (.cons ?_ (.cons ?_ (.cons (.sc _ rfl) .nil))), stp, hgood, fun id => ?_, fun id h => (hal id).1 h, fun id h => (hal id).2 (.inl h)⟩
    · refine hrel.H6 (c := Fx (fun q => q < c.w.heap.size ∨ q = b) w') (c' := c') (fun q ⟨p1, p2, p3⟩ => ⟨by rw [hw]; exact p1, fun ho => ?_, fun hq => ?_⟩) (fun q o vs _ hce => by rw [hw]; exact hce) (Ct _ _)
      · rcases own' q ho with e | ⟨id, bk, p4, p5⟩
        · exact p3 (.inr e)
        · have := g.lt p4; exact p3 (.inl (by omega))
      · rw [hno] at hq
        have := g.Iq q hq
        have := g.hB
        exact p3 (.inl (by omega))
    · have e : c'.f k = b := by rw [hf, if_pos rfl]
      have := Bb.sl (c := c') (id := k) (off := 0) (esz := 1) (n := r.2.1.length) (cap := r.2.1.length) (cap' := cap) (ex := false) (arr := arr) (T := 3) ((hal k).2 (.inr rfl)) (by rw [e, hw]; exact q2) (by omega) (Nat.le_refl _) q4 (fun h => by cases h) q6
      rwa [e] at this
    · rw [hM]
      simp only [P4]
theorem X0 {c : Cx} : ∀ {zs : List Int} {vs : List Value}, Bf c (zs.map Aa) vs → vs = zs.map (Value.int .i64)
  | [], _, .nil => rfl
  | z :: zs, _, .cons h t => by rw [K4 h, X0 t]; rfl
theorem zZ {c : Cx} {t : Ao} {v : Value} (h : Bb c (AV.agg [(Aa t.Cf), (Aa t.Ce), (Aa t.Ci), (Aa t.Cn), (Aa t.Cd), (Aa t.Cl), (Aa t.Cr), (Aa t.Co), (Aa t.Cm), (Aa t.Ck), (Aa t.Ch), (Aa t.Cg), (Aa t.Cb), (Aa t.Cj), (Aa t.Cq), (Aa t.Cp)]) v) : v = .agg (Rl t) := by
  cases h with
  | agg h =>
    have := X0 (zs := [t.Cf, t.Ce, t.Ci, t.Cn, t.Cd, t.Cl, t.Cr, t.Co, t.Cm, t.Ck, t.Ch, t.Cg, t.Cb, t.Cj, t.Cq, t.Cp]) h
    rw [this]; rfl
theorem Abu {c : Cx} (h : B2 KK.gl c) : B2 KK.gl (Fx (fun _ => False) c.w) := B2.Br (c := c) rfl (fun b ⟨q1, q2, q3⟩ => ⟨q1, Gv b, fun h => h⟩) h
theorem jK {no : Nat → Prop} {w : World} {n : Nat} {l : List Ad} {t : Ao} {most : Int} {r : List Int × List Int × Int} (h : g6 n l t most = some r) {vals : List Value} (hgw : B2 KK.gl (Fx (fun _ => False) w))
    (hr : Bf (Fx (fun _ => False) w) [(Am Ad.E l), (AV.agg [(Aa t.Cf), (Aa t.Ce), (Aa t.Ci), (Aa t.Cn), (Aa t.Cd), (Aa t.Cl), (Aa t.Cr), (Aa t.Co), (Aa t.Cm), (Aa t.Ck), (Aa t.Ch), (Aa t.Cg), (Aa t.Cb), (Aa t.Cj), (Aa t.Cq), (Aa t.Cp)]), (Aa most)] vals) :
    Calls Tryz.prog 6 vals.toArray w (eZ w r) := by
  cases hr with
  | cons r1 hr =>
  cases hr with
  | cons r2 hr =>
  cases hr with
  | cons r3 hr =>
  cases hr
  obtain rfl := zZ r2
  obtain rfl := K4 r3
  exact Zj h hgw r1
theorem aL : D8 Tryz.prog 6 := ⟨Tryz.f6, _, Tryz.func6, rfl, by kernel_rfl⟩
theorem Adk {n k : Nat} {look : Nat → Option Bi} {l : List Ad} {t : Ao} {most : Int} {r : ρ6} (h : g6 n l t most = some r) : D2 Tryz.prog KK.gl look k 6 [(Am Ad.E l), (AV.agg [(Aa t.Cf), (Aa t.Ce), (Aa t.Ci), (Aa t.Cn), (Aa t.Cd), (Aa t.Cl), (Aa t.Cr), (Aa t.Co), (Aa t.Cm), (Aa t.Ck), (Aa t.Ch), (Aa t.Cg), (Aa t.Cb), (Aa t.Cj), (Aa t.Cq), (Aa t.Cp)]), (Aa most)] (.tup [Am A2 r.1, B5 A2 k r.2.1, Aa r.2.2]) [(k, Cs A2 3 r.2.1)] :=
  ⟨aL, fun B c vals g hgl hn hl hr => (jK (no := fun _ => False) h (Abu hgl) (hr.H6 (c := c) (c' := Fx (fun _ => False) c.w) (fun b ⟨q1, q2, q3⟩ => ⟨q1, Gv b, fun h => h⟩) (fun _ _ _ _ hc => hc) (by simp [As, clean, Ak]))).mono fun e w' hb => jC g hn hb⟩
end Go.Proofs.YtbfabclpcamlnaaGreatDoor
