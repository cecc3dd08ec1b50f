/- sector.visits: the loop's body collects visits. -/
import Derived.Test.YtfncpfnanmoapaaSv4
import Derived.Test.YtfncpfnanmoapaaSv0
set_option linter.unusedVariables false
set_option linter.unusedSimpArgs false
namespace Go.Proofs.Ytfncpfnanmoapaa
open Go.RowKit Go.Shelf
attribute [local go_sem] Oper.semAt_some

/- a node, and the sector that it is in -/
abbrev Hit (gl : Nat → Option (List AV)) (L : List TSector) := { p : TTubeNode × Int // Says Try.prog gl 20 [lstA TSector.E L, AV.agg [intA p.1.Node_At_X, intA p.1.Node_At_Y], intA p.1.Node_Height] (intA p.2) }
def visL {gl : Nat → Option (List AV)} {L : List TSector} (pre : List (Hit gl L)) : List TSectorVisit := pre.foldl (fun q x => visAdd q x.1.2 x.1.1.Node_Time) []
theorem visL_snoc {gl : Nat → Option (List AV)} {L : List TSector} (pre : List (Hit gl L)) (x : Hit gl L) : visL (pre ++ [x]) = visAdd (visL pre) x.1.2 x.1.1.Node_Time := by simp [visL]
theorem visAdd_len (q : List TSectorVisit) (i u : Int) : (visAdd q i u).length ≤ q.length + 1 := by
  unfold visAdd
  cases q.getLast? with
  | none => simp
  | some v => cases hb : (v.Sector == i) <;> simp [hb]
theorem visL_len {gl : Nat → Option (List AV)} {L : List TSector} (pre : List (Hit gl L)) : (visL pre).length ≤ pre.length := by
  suffices h : ∀ (l : List (Hit gl L)) (q : List TSectorVisit), (l.foldl (fun q x => visAdd q x.1.2 x.1.1.Node_Time) q).length ≤ q.length + l.length by simpa [visL] using h pre []
  intro l
  induction l with
  | nil => intro q; simp
  | cons x r ih => intro q; simp only [List.foldl_cons, List.length_cons]; have := ih (visAdd q x.1.2 x.1.1.Node_Time); have := visAdd_len q x.1.2 x.1.1.Node_Time; omega
def visCells (q : List TSectorVisit) : List Value := q.flatMap fun v => [.int .i64 v.Sector, .int .i64 v.From, .int .i64 v.To]
theorem visCells_len : ∀ q : List TSectorVisit, (visCells q).length = q.length * 3
  | [] => rfl
  | y :: r => by
    have := visCells_len r
    unfold visCells at this ⊢
    rw [List.flatMap_cons, List.length_append, this, List.length_cons]
    simp; omega
/- what lies between two rounds -/
def VI {gl : Nat → Option (List AV)} {L : List TSector} (w : World) (Bo : Nat) (pre : List (Hit gl L)) (W : World) : Prop :=
  Kx w.heap.size Bo w W ∧ ∃ v, Boxed W Bo 41 v ∧ W.ownsRow w.heap.size 50 3 v (visL pre).length (visCells (visL pre)) ∧ (v = .slice none 0 0 ↔ visL pre = [])
theorem VI.kept {gl : Nat → Option (List AV)} {L : List TSector} {w : World} {Bo : Nat} {pre : List (Hit gl L)} {A B : World} (h : VI w Bo pre A) (hk : Kept A B) : VI w Bo pre B := by
  obtain ⟨h1, v, h2, h3, h4⟩ := h
  exact ⟨h1.trans (Kx.of_kept h1.size hk), v, h2.kept hk.grown (by simp), h3.kept hk.grown (by cases hv : v.ownBlock <;> simp), h4⟩
theorem VI.put {gl : Nat → Option (List AV)} {L : List TSector} {w : World} {Bo : Nat} {pre : List (Hit gl L)} {W : World} {l : Nat} {o o' : Obj} (h : VI w Bo pre W) (hl : w.heap.size ≤ l) (ho : W.heap[l]? = some o) (hc : o.isCells = false) : VI w Bo pre (W.putObj l o') := by
  obtain ⟨h1, v, h2, h3, h4⟩ := h
  refine ⟨h1.trans (Kx.putObj _ _ _ hl), v, h2.kept (grownBy_putObj' W l o') ?_, ownsRow_putObj h3 o' ho hc, h4⟩
  intro e
  cases e
  rw [show W.heap[Bo]? = _ from h2] at ho
  cases ho; cases hc
theorem grown_set (w : World) (a : Addr) (v : Value) : w.grownBy (w.setCell a v) (some a.block) := ⟨rfl, rfl, rfl, by simp, fun k hk hne => Below.heap_setCell _ _ _ _ (fun e => hne (by rw [e]))⟩
theorem set_block {w : World} {g : Nat} {cur : Array Value} {T : TypeId} (h : w.heap[g]? = some (.cells cur T (0, 0))) (k : Nat) (v : Value) : (w.setCell ⟨g, k, none⟩ v).heap[g]? = some (.cells (cur.setIfInBounds k v) T (0, 0)) := by
  unfold World.setCell
  simp only [Array.getElem?_modify, h]
  simp
theorem infoV : (Try.prog.info? 50).map (fun i => (i.zero, i.size, i.bytes)) = some (some (.agg #[.int .i64 0, .int .i64 0, .int .i64 0]), 3, 24) := by kernel_rfl
set_option maxRecDepth 100000 in
set_option maxHeartbeats 4000000 in
theorem visits_in {gl : Nat → Option (List AV)} {L : List TSector} {T : List TTubeNode} {a b : Int} {xs : Nat → Hit gl L} {N : Nat} (hN : b = a + N) (hN2 : N ≤ 1000000) (ha : -1000000000000 ≤ a) (hb : b ≤ 1000000000000)
    (hcl : PureD Try.prog gl (fun _ => none) 0 44 [lstA TTubeNode.E T] (ownV TTubeNode.E 0 T) [(0, ownB TTubeNode.E 66 T)])
    (h28 : Says Try.prog gl 22 [lstA TTubeNode.E T] (intA 0)) (h42 : Says Try.prog gl 46 [lstA TTubeNode.E T] (.tup [intA a, intA b]))
    (h43 : ∀ k : Nat, k ≤ N → Says Try.prog gl 47 [lstA TTubeNode.E T, intA (a + k)] (nodeA (xs k).1.1))
    {c : Cx} (hc : Bare c) (hal : ∀ id, ¬ c.al id) (hgl : GlobOk gl c) {lv tv : Value} (hlv : VRel c (lstA TSector.E L) lv) (hr : VRel c (lstA TTubeNode.E T) tv) (n : Nat) (hn : 5 ≤ n) :
    CallsIn Fence.wide n Try.prog 23 #[lv, tv] c.w (fun e w' => ∃ v, e = .returned v ∧ Kept c.w w' ∧ w'.ownsRow c.w.heap.size 50 3 v (visL (upto xs (N + 1))).length (visCells (visL (upto xs (N + 1)))) ∧ (v = .slice none 0 0 ↔ visL (upto xs (N + 1)) = [])) := by
  obtain ⟨ad, m, cap, rfl⟩ := slice_of hr
  obtain ⟨ad0, m0, cap0, rfl⟩ := slice_of hlv
  obtain ⟨V0, hV0⟩ : ∃ V0, (c.w.alloc (.cells #[.slice ad0 m0 cap0] 22)).alloc (.cells #[.slice none 0 0] 41) = V0 := ⟨_, rfl⟩
  have hK0 : Kept c.w V0 := by rw [← hV0]; exact Kept.alloc2
  have hs0 : V0.heap.size = c.w.heap.size + 2 := by rw [← hV0]; simp
  have hbA : V0.heap[c.w.heap.size]? = some (.cells #[.slice ad0 m0 cap0] 22 (0, 0)) := by rw [← hV0]; exact (Below.heap_alloc _ _ _ (by simp)).trans (World.alloc_heap_new _ _)
  have hbO : V0.heap[c.w.heap.size + 1]? = some (.cells #[.slice none 0 0] 41 (0, 0)) := by rw [← hV0]; have := World.alloc_heap_new (c.w.alloc (.cells #[.slice ad0 m0 cap0] 22)) (.cells #[.slice none 0 0] 41); rwa [World.size_alloc] at this
  obtain ⟨c1, hc1⟩ : ∃ c1 : Cx, c1 = ⟨V0, c.f, c.al, c.M, fun b => c.no b ∨ b = c.w.heap.size + 1⟩ := ⟨_, rfl⟩
  have w1 : c1.w = V0 := by rw [hc1]
  have B1 : Bare c1 := ⟨by rw [hc1]; exact hc.M, fun b hb => by
    rw [hc1] at hb ⊢
    show b < V0.heap.size
    rcases hb with h | h
    · have := hc.no b h; omega
    · omega⟩
  have st1 : ∀ k, c.stable k → c1.stable k := fun k ⟨q1, q2, q3⟩ => ⟨by rw [w1]; omega, B1.own k, fun q => by
    rw [hc1] at q
    rcases q with q | q
    · exact q3 q
    · omega⟩
  have ct1 : ∀ k o vs, c.stable k → CellsAt c.w k o vs → CellsAt c1.w k o vs := fun k o vs hs hce j v hv => by
    rw [← hce j v hv, w1]
    simp [World.cell?, hK0.blk k hs.1]
  have hr1 := hr.moved (c' := c1) st1 ct1 (by simp [clean, encs_clean])
  have hlv1 := hlv.moved (c' := c1) st1 ct1 (by simp [clean, encs_clean])
  have hgl1 : GlobOk gl c1 := fun g cs hg => by
    obtain ⟨h1, h2, h3⟩ := hgl g cs hg
    refine ⟨h1, h2.moved st1 ct1 (by simpa [clean] using h1), fun q => ?_⟩
    obtain ⟨k1, arr, T, fz, k2, k3⟩ := h3 q
    exact ⟨st1 _ k1, arr, T, fz, by rw [w1]; exact (hK0.blk _ k1.1).trans k2, k3⟩
  have hal1 : ∀ id, ¬ c1.al id := by rw [hc1]; exact hal
  have hall := all_in hcl B1 hal1 hgl1 hr1 (n - 1) (by omega)
  rw [w1] at hall
  refine callsIn_of_wp_marks Try.func23 rfl trivial ?_ rfl
  simp only [Try.ntmps23, List.size_toArray, List.length_cons, List.length_nil, Nat.reduceAdd, Nat.reduceSub, Array.replicate_succ, Array.replicate_zero, List.push_toArray, List.append_toArray, List.nil_append, List.cons_append]
  gi_wp2_with (refine ⟨trivial, ?_⟩; gi_at_call 36)
  refine ⟨trivial, fun _ => by omega, hall.mono ?_⟩
  clear hall
  rintro e w2 ⟨tv', rfl, hk2, hs2, hcl2, hv2⟩
  gi_wp2
  have hO2 : w2.heap[c.w.heap.size + 1]? = some (.cells #[.slice none 0 0] 41 (0, 0)) := (hk2.blk _ (by omega)).trans hbO
  have hA2 : w2.heap[c.w.heap.size]? = some (.cells #[.slice ad0 m0 cap0] 22 (0, 0)) := (hk2.blk _ (by omega)).trans hbA
  have c1M := B1.M
  obtain ⟨c2, hc2⟩ : ∃ c2 : Cx, c2 = ⟨w2, c1.f, c1.al, c1.M, fun b => c1.no b ∨ b = V0.heap.size⟩ := ⟨_, rfl⟩
  have w2e : c2.w = w2 := by rw [hc2]
  have B2 : Bare c2 := ⟨by rw [hc2]; exact c1M, fun b hb => by
    rw [hc2] at hb ⊢
    show b < w2.heap.size
    rcases hb with h | h
    · have := B1.no b h; rw [w1] at this; omega
    · omega⟩
  have st2 : ∀ k, c1.stable k → c2.stable k := fun k ⟨q1, q2, q3⟩ => ⟨by rw [w2e]; rw [w1] at q1; omega, B2.own k, fun q => by
    rw [hc2] at q
    rcases q with q | q
    · exact q3 q
    · rw [w1] at q1; omega⟩
  have ct2 : ∀ k o vs, c1.stable k → CellsAt c1.w k o vs → CellsAt c2.w k o vs := fun k o vs hs hce j v hv => by
    rw [← hce j v hv, w2e, w1]
    have := hs.1
    rw [w1] at this
    simp [World.cell?, hk2.blk k this]
  have hlv2 := hlv1.moved (c' := c2) st2 ct2 (by simp [clean, encs_clean])
  have hgl2 : GlobOk gl c2 := fun g cs hg => by
    obtain ⟨h1, h2, h3⟩ := hgl1 g cs hg
    refine ⟨h1, h2.moved st2 ct2 (by simpa [clean] using h1), fun q => ?_⟩
    obtain ⟨k1, arr, T, fz, k2, k3⟩ := h3 q
    have := k1.1
    rw [w1] at this k2
    exact ⟨st2 _ k1, arr, T, fz, by rw [w2e]; exact (hk2.blk _ this).trans k2, k3⟩
  rw [← hc2] at hv2
  have no2 : c2.no (c.w.heap.size + 1) := by rw [hc2]; exact .inl (by rw [hc1]; exact .inr rfl)
  refine range_law (α := Hit gl L) (gf := 45) (lb := #[.pointer (some ⟨c.w.heap.size + 2, 0, none⟩)]) (Bo := c.w.heap.size + 1) (N := N + 1) (S := fun ys => ys = upto xs (N + 1)) (encs := fun x => #[nodeV x.1.1]) (by omega) rfl (enters_of Try.func45 (by kernel_rfl) rfl) ?seq (fun _ => rfl) (VI w2 (c.w.heap.size + 1)) (fun _ _ _ h k => h.kept k) (fun _ _ _ _ _ h q1 q2 q3 => h.put q1 q2 q3) ?start
    (fun x a' W => ∃ Bx, w2.heap.size ≤ Bx ∧ W.heap[Bx]? = some (.cells #[.int .i64 x.1.1.Node_Time, .int .i64 x.1.1.Node_At_X, .int .i64 x.1.1.Node_At_Y, .int .i64 x.1.1.Node_Height, .int .i64 x.1.1.Radius, .int .i64 x.1.1.Band] 66 (0, 0)) ∧ a' = { tmps := #[.slice ad0 m0 cap0, .slice ad m cap, .pointer (some ⟨c.w.heap.size, 0, none⟩), undef, .slice none 0 0, .pointer (some ⟨c.w.heap.size + 1, 0, none⟩), .pointer (some ⟨Bx, 0, none⟩), undef, undef, .slice ad m cap, .func (.func 45) #[] #[.pointer (some ⟨c.w.heap.size + 2, 0, none⟩)], nodeV x.1.1, undef, undef, undef, undef, undef, undef, undef, undef, undef, undef, undef, undef, undef, undef, undef, undef, undef, undef, undef, undef, undef, undef, undef, undef, undef, undef, undef, undef, undef, undef, undef, undef, undef, undef, undef, undef, undef, undef, undef, undef, undef, undef], defers := [] }) ?ap ?assign ?body ?done
  case seq =>
    intro l J W hk hJ hY h0
    have := all1_in (fun x : Hit gl L => x.1.1) hN ha hb h28 h42 h43 B2 hgl2 no2 hv2 (Bs := c.w.heap.size + 2) (by rw [w2e]; omega) (by omega) (by rw [w2e, ← hs0]; exact hcl2) (n - 1) (by omega) l J W (by rw [w2e]; exact Kx.of_kept (Nat.le_refl _) hk) hJ (by rw [w2e]; exact hY) h0
    exact this
  case start => exact ⟨Kx.refl _ _ _, .slice none 0 0, hO2, by simpa [visL, visCells] using World.ownsRow_nil w2 w2.heap.size 50 3, by simp [visL]⟩
  case ap =>
    rintro x a' W l o o' ⟨Bx, h1, h2, h3⟩ hl ho hcells
    refine ⟨Bx, h1, ?_, h3⟩
    by_cases e : Bx = l
    · subst e; rw [ho] at h2; cases h2; cases hcells
    · exact (World.putObj_heap_other e).trans h2
  case assign =>
    intro l pre x W K hI hsz hK
    simp only [nodeV]
    gi_wp2
    exact hK _ _ ((KeepsOthers.alloc _ _).from _) (Kx.of_kept hsz (Kept.alloc _ _)) (hI.kept (Kept.alloc _ _)) ⟨W.heap.size, hsz, World.alloc_heap_new _ _, rfl⟩
  case body =>
    rintro l pre x a' W hl hsz hI ⟨Bx, hBx, hbx, rfl⟩ hlen
    have hkx := hI.1
    have hcA : W.cell? ⟨c.w.heap.size, 0, none⟩ = some (.slice ad0 m0 cap0) := (hkx.cell (p := ⟨c.w.heap.size, 0, none⟩) (by show c.w.heap.size < _; omega) (by show c.w.heap.size ≠ _; omega)).trans (by simp [World.cell?, hA2])
    have hx0 : W.cell? ⟨Bx, 0, none⟩ = some (.int .i64 x.1.1.Node_Time) := by simp [World.cell?, hbx]
    have hx1 : W.cell? ⟨Bx, 1, none⟩ = some (.int .i64 x.1.1.Node_At_X) := by simp [World.cell?, hbx]
    have hx2 : W.cell? ⟨Bx, 2, none⟩ = some (.int .i64 x.1.1.Node_At_Y) := by simp [World.cell?, hbx]
    have hx3 : W.cell? ⟨Bx, 3, none⟩ = some (.int .i64 x.1.1.Node_Height) := by simp [World.cell?, hbx]
    have hplace := fun n => (says_at x.2 B2 hgl2 no2 (by rw [w2e]; exact hkx) (.cons hlv2 (.cons (.agg (.cons (.sc _ rfl) (.cons (.sc _ rfl) .nil))) (.cons (.sc _ rfl) .nil))) n).inRound l
    gi_wp2_with (refine ⟨trivial, ?_⟩; gi_at_call 20)
    refine ⟨trivial, fun _ => by omega, (hplace _).mono ?_⟩
    clear hplace
    rintro e w3 ⟨v3, rfl, hk3, hv3⟩
    obtain rfl := int_of hv3
    obtain ⟨hkx3, v, hbox, hrow, hnil⟩ := hI.kept hk3
    have hltB : Bx < W.heap.size := (Array.getElem?_eq_some_iff.1 hbx).1
    have hbx3 := (hk3.blk Bx hltB).trans hbx
    have hy0 : w3.cell? ⟨Bx, 0, none⟩ = some (.int .i64 x.1.1.Node_Time) := by simp [World.cell?, hbx3]
    have hvc := hbox.cell
    have hvf := hbox.frozen
    have hsz3 : w2.heap.size ≤ w3.heap.size := Nat.le_trans hsz hk3.size
    have hvl := visL_len pre
    have hkf3 : KeepsFrom w2.heap.size W w3 := KeepsFrom.of_grownBy hk3.grown (fun j e => by cases e)
    have hkx23 : Kx w2.heap.size (c.w.heap.size + 1) W w3 := Kx.of_kept hsz hk3
    obtain ⟨i0, hi, hz0, hz1, hz2⟩ := info_parts infoV
    rcases List.eq_nil_or_concat (visL pre) with hnl | ⟨Q, q0, hQ⟩
    · -- the first visit
      obtain rfl := hnil.2 hnl
      rw [hnl] at hrow
      have hnl2 : visL (pre ++ [x]) = [⟨x.1.2, x.1.1.Node_Time, x.1.1.Node_Time⟩] := by rw [visL_snoc, hnl]; rfl
      clear hnil hnl hvl
      gi_wp2_with (first
        | (gi_at_builtin; refine append_d _ rfl _ _ 41 rfl w2.heap.size 50 i0 (.agg #[.int .i64 0, .int .i64 0, .int .i64 0]) 3 24 Try.underlying41 hi hz0 hz1 hz2 rfl (by decide) (.slice none 0 0) 0 [] rfl (hrow.alloc _) ⟨w3.heap.size, 0, none⟩ 1 1 [.int .i64 x.1.2, .int .i64 x.1.1.Node_Time, .int .i64 x.1.1.Node_Time] rfl rfl (new3 _ _ _ _ _) (by intro u hu; simp at hu; rcases hu with rfl | rfl <;> rfl) (by decide) (by decide) (by simp; omega) ?_; intro v' w4 hown' hgrow _ hdr; obtain ⟨g', cap', rfl⟩ := ownsRow_succ hown'; have hv1 := (hbox.alloc (.cells #[.int .i64 x.1.2, .int .i64 x.1.1.Node_Time, .int .i64 x.1.1.Node_Time] 50)).kept hgrow (by simp [Value.ownBlock]); have hvc1 := hv1.cell; have hvf1 := hv1.frozen))
      have hgr : w3.grownBy w4 none := ⟨hgrow.os, hgrow.tape, hgrow.output, by have := hgrow.size; simp at this; omega, fun k hk _ => (hgrow.block k (by simp; omega) (by simp [Value.ownBlock])).trans (Below.heap_alloc _ _ k hk)⟩
      have hdr' : dr w3 ≤ dr w4 := dr_le hdr
      have hK34 : Kept w3 w4 := ⟨hgr.os, hgr.tape, hgr.output, hgr.size, fun k hk => hgr.block k hk (by simp), hdr'⟩
      refine ⟨(hkf3.trans (KeepsFrom.of_grownBy hK34.grown (fun j e => by cases e))).trans ((KeepsOthers.setCell _ _ _).from _), hkx23.trans ((Kx.of_kept hsz3 hK34).setCell ⟨c.w.heap.size + 1, 0, none⟩ (.inl rfl) _), (hkx3.trans (Kx.of_kept hsz3 hK34)).setCell ⟨c.w.heap.size + 1, 0, none⟩ (.inl rfl) _, _, hv1.set _, ?_, ?_⟩
      · rw [hnl2]
        exact hown'.kept (grownBy_setCell' w4 _ _) (.inr (hv1.not_row (by decide) hown').symm)
      · rw [hnl2]; simp
    · -- a visit is under way
      have hnn : visL pre ≠ [] := by rw [hQ]; simp
      have hlenQ : (visL pre).length = Q.length + 1 := by rw [hQ]; simp
      rcases hrow.2 with ⟨-, h0⟩ | ⟨g, cap3, cur, rfl, hbg, hg, hle, hmx, hsz4, htk⟩
      · rw [hlenQ] at h0; omega
      rw [hlenQ] at hle hbox hrow hvc
      have hcq : visCells (visL pre) = visCells Q ++ [.int .i64 q0.Sector, .int .i64 q0.From, .int .i64 q0.To] := by rw [hQ]; simp [visCells]
      have hlc := visCells_len Q
      have hcell : ∀ j u, (visCells (visL pre))[j]? = some u → w3.cell? ⟨g, j, none⟩ = some u := fun j u hu => by
        have := hrow.cells (g := g) rfl j u hu
        rwa [show (⟨g, 0, none⟩ : Addr).add j = ⟨g, j, none⟩ by unfold Addr.add; split <;> simp_all] at this
      have hq0 : w3.cell? ⟨g, Q.length * 3, none⟩ = some (.int .i64 q0.Sector) := hcell _ _ (by rw [hcq, List.getElem?_append_right (by omega), hlc, Nat.sub_self]; rfl)
      have hq2 : w3.cell? ⟨g, Q.length * 3 + 2, none⟩ = some (.int .i64 q0.To) := hcell _ _ (by rw [hcq, List.getElem?_append_right (by omega), hlc, show Q.length * 3 + 2 - Q.length * 3 = 2 by omega]; rfl)
      have hfq : w3.frozen? ⟨g, Q.length * 3 + 2, none⟩ = false := by simp [World.frozen?, hg]
      have hneg : Q.length + 1 ≤ N + 1 := by omega
      have hkk : ((Q.length + 1 : Nat) : Int) - 1 = (Q.length : Int) := by omega
      clear hnil
      by_cases hsec : q0.Sector = x.1.2
      · gi_wp2
        have hadd : visL (pre ++ [x]) = Q ++ [⟨q0.Sector, q0.From, x.1.1.Node_Time⟩] := by
          rw [visL_snoc, hQ]
          unfold visAdd
          simp [hsec]
        have hgs := grown_set w3 ⟨g, Q.length * 3 + 2, none⟩ (.int .i64 x.1.1.Node_Time)
        refine ⟨hkf3.trans ((KeepsOthers.setCell _ _ _).from _), hkx23.trans ((Kx.refl _ _ _).setCell ⟨g, Q.length * 3 + 2, none⟩ (.inr hbg) _), hkx3.setCell ⟨g, Q.length * 3 + 2, none⟩ (.inr hbg) _, _, hbox.kept hgs (hbox.not_row (by decide) hrow), ?_, ?_⟩
        · rw [hadd]
          refine ⟨visCells_len _, .inr ⟨g, cap3, cur.setIfInBounds (Q.length * 3 + 2) (.int .i64 x.1.1.Node_Time), by simp, hbg, set_block hg _ _, by simp; omega, hmx, by simp [hsz4], ?_⟩⟩
          have htk2 : cur.toList.take ((Q.length + 1) * 3) = visCells Q ++ [.int .i64 q0.Sector, .int .i64 q0.From, .int .i64 q0.To] := by rw [← hcq, ← htk, hlenQ]
          rw [show (Q ++ [(⟨q0.Sector, q0.From, x.1.1.Node_Time⟩ : TSectorVisit)]).length = Q.length + 1 by simp, Array.toList_setIfInBounds, List.take_set, htk2]
          rw [List.set_append_right _ _ (by omega), hlc, show Q.length * 3 + 2 - Q.length * 3 = 2 by omega]
          simp [visCells]
        · rw [hadd]; simp
      · have hadd : visL (pre ++ [x]) = (Q ++ [q0]) ++ [⟨x.1.2, x.1.1.Node_Time, x.1.1.Node_Time⟩] := by
          have hb : (q0.Sector == x.1.2) = false := beq_eq_false_iff_ne.2 hsec
          rw [visL_snoc, hQ]
          unfold visAdd
          simp [hb]
        gi_wp2_with (first
          | (gi_at_builtin; refine append_d _ rfl _ _ 41 rfl w2.heap.size 50 i0 (.agg #[.int .i64 0, .int .i64 0, .int .i64 0]) 3 24 Try.underlying41 hi hz0 hz1 hz2 rfl (by decide) (.slice (some ⟨g, 0, none⟩) (Q.length + 1) cap3) (Q.length + 1) (visCells (visL pre)) rfl (hrow.alloc _) ⟨w3.heap.size, 0, none⟩ 1 1 [.int .i64 x.1.2, .int .i64 x.1.1.Node_Time, .int .i64 x.1.1.Node_Time] rfl rfl (new3 _ _ _ _ _) (by intro u hu; simp at hu; rcases hu with rfl | rfl <;> rfl) (by simp only [maxLen]; omega) (by omega) (by simp; omega) ?_; intro v' w4 hown' hgrow _ hdr; obtain ⟨g', cap', rfl⟩ := ownsRow_succ hown'; have hv1 := (hbox.alloc (.cells #[.int .i64 x.1.2, .int .i64 x.1.1.Node_Time, .int .i64 x.1.1.Node_Time] 50)).kept hgrow (hbox.not_row (by decide) hrow); have hvc1 := hv1.cell; have hvf1 := hv1.frozen))
        have hgr : w3.grownBy w4 (some g) := ⟨hgrow.os, hgrow.tape, hgrow.output, by have := hgrow.size; simp at this; omega, fun k hk hne => (hgrow.block k (by simp; omega) hne).trans (Below.heap_alloc _ _ k hk)⟩
        have hdr' : dr w3 ≤ dr w4 := dr_le hdr
        have hx34 : Kx w2.heap.size (c.w.heap.size + 1) w3 w4 := Kx.grown hgr hsz3 (fun k e => by cases e; exact hbg) hdr'
        have hf34 : KeepsFrom w2.heap.size w3 w4 := ⟨hgr.size, fun k o hk ho hcells => by
          by_cases e : k = g
          · subst e; rw [hg] at ho; cases ho; cases hcells
          · exact (hgr.block k (Array.getElem?_eq_some_iff.1 ho).1 (fun h => e (by cases h; rfl))).trans ho⟩
        refine ⟨(hkf3.trans hf34).trans ((KeepsOthers.setCell _ _ _).from _), hkx23.trans (hx34.setCell ⟨c.w.heap.size + 1, 0, none⟩ (.inl rfl) _), (hkx3.trans hx34).setCell ⟨c.w.heap.size + 1, 0, none⟩ (.inl rfl) _, _, hv1.set _, ?_, ?_⟩
        · rw [hadd]
          have hl2 : ((Q ++ [q0]) ++ [(⟨x.1.2, x.1.1.Node_Time, x.1.1.Node_Time⟩ : TSectorVisit)]).length = Q.length + 1 + 1 := by simp
          have hc2 : visCells ((Q ++ [q0]) ++ [(⟨x.1.2, x.1.1.Node_Time, x.1.1.Node_Time⟩ : TSectorVisit)]) = visCells (visL pre) ++ [.int .i64 x.1.2, .int .i64 x.1.1.Node_Time, .int .i64 x.1.1.Node_Time] := by rw [hQ]; simp [visCells]
          rw [hl2, hc2]
          exact hown'.kept (grownBy_setCell' w4 _ _) (.inr (hv1.not_row (by decide) hown').symm)
        · rw [hadd]; simp
  case done =>
    rintro D ys W hD rfl ⟨hkx, v, hbox, hrow, hnil⟩ hK
    have hvc := hbox.cell
    gi_wp2
    refine ⟨by simp, .inl ⟨_, _, rfl, run_takeDeferred hK, ?_⟩⟩
    refine ⟨_, results_tmp rfl _ _ _, v, rfl, ?_, ?_, hnil⟩
    · have h1 : Kx c.w.heap.size (c.w.heap.size + 1) c.w W := (Kx.of_kept (Nat.le_refl _) hK0).trans ((Kx.of_kept (by omega) hk2).trans (hkx.mono (by omega)))
      have h2 := h1.trans (Kx.putObj (n := c.w.heap.size) (b := c.w.heap.size + 1) W D (.deferred none) (by omega))
      exact ⟨h2.os, h2.tape, h2.output, h2.size, fun k hk => h2.blk k hk (by omega), h2.drawn⟩
    · have hr2 := ownsRow_putObj hrow (.deferred none) hK rfl
      refine ⟨hr2.1, ?_⟩
      rcases hr2.2 with h | ⟨g, cap3, cur, e1, hbg, rest⟩
      · exact .inl h
      · exact .inr ⟨g, cap3, cur, e1, by omega, rest⟩
end Go.Proofs.Ytfncpfnanmoapaa
