/- config.Split, walked in worlds. -/
import Derived.Test.YthjcdlbkdobmiaaCsA
import Derived.Test.YthjcdlbkdobmiaaCcW
set_option linter.unusedVariables false
set_option linter.unusedSimpArgs false
namespace Go.Proofs.Ythjcdlbkdobmiaa
open Go.RowKit Go.Shelf

theorem wpList_append_b {P : Program} (w : World) {ops : Array Oper} {rest : List Oper} {o : Oper} {a : Act} {Q : Exit → Act → World → Prop} (hgd : o.guard = none) (s x : Operand) (t : TypeId)
    (ho : o.op = .call { callee := .builtin .append, args := #[s, x], argTypes := #[t, t] })
    (base : Nat) (e : TypeId) (i : TypeInfo) (z : Value) (size bytes : Nat) (ht : P.underlying t = some (.slice e)) (hi : P.info? e = some i) (hz : i.zero = some z)
    (hsize : i.size = size) (hby : i.bytes = bytes) (hzs : z.cells.size = size) (hsz : 0 < size)
    (v : Value) (n : Nat) (xs : List Value) (hs : a.eval s = v) (hown : w.ownsRow base e size v n xs)
    (ad : Addr) (m c : Nat) (news : List Value) (hx : a.eval x = .slice (some ad) m c) (hl : news.length = m * size) (hnews : ∀ j u, news[j]? = some u → w.cell? (ad.add j) = some u) (h1 : ∀ u ∈ news, u.oneCell' = true)
    (h63 : n + m ≤ maxLen) (hbytes : (n + m) * bytes ≤ 140737488355328) (hbase : base ≤ w.heap.size)
    (h : ∀ v' w', w'.ownsRow base e size v' (n + m) (xs ++ news) → w.grownBy w' v.ownBlock → (∀ b, v'.ownBlock = some b → v.ownBlock = some b ∨ w.heap.size ≤ b) → w.drawn ≤ w'.drawn → wpList P ops Q rest (a.put o.dst v') w') : wpList P ops Q (o :: rest) a w :=
  wpList_plain hgd fun _ hK => by
    obtain ⟨v', w', hr, h2, h3, h4⟩ := run_append_b (P := P) w base t o.type e i z size bytes ht hi hz hsize hby hzs hsz v n xs hown ad m c news hl hnews h1 h63 hbytes hbase
    have hd := run_drawn P _ _ _ _ hr
    unfold Oper.wp execOp
    simp only [ho, resolve, invoke, builtin, Sem.run_bind, Sem.run_pure, Result.andThen_ok, List.map_toArray, List.map_cons, List.map_nil, hs, hx, hr]
    exact hK _ _ (h v' w' h2 h3 h4 hd)
theorem lst_len63 {α : Type} {E : En α} {no : Nat → Prop} {w : World} {L : List α} {v : Value} (h : VRel (cxA no w) (lstA E L) v) : L.length ≤ 9223372036854775807 := by
  unfold lstA at h
  generalize encs E L = es at h
  generalize L.length = q at *
  cases h with
  | lst0 a cap ex he hm hn => omega
  | lst hb h hc hn he hm => simp only [maxLen] at hm; omega
theorem filt_step {p : ByteArray → Bool} {l : List ByteArray} {j : Nat} {s : ByteArray} (h : l[j]? = some s) : (l.take (j + 1)).filter p = (l.take j).filter p ++ (if p s = true then [s] else []) := by
  obtain ⟨hj, hs⟩ := List.getElem?_eq_some_iff.1 h
  rw [List.take_succ_eq_append_getElem hj, List.filter_append, hs]
  congr 1
  cases hp : p s <;> simp [hp]
theorem txs_app (a b : List ByteArray) : txs (a ++ b) = txs a ++ txs b := List.map_append
/- the new position's row is one longer -/
theorem grp_grow {w5 wq w8 : World} {to s : ByteArray} {sv v8 : Value} {F : List ByteArray} (hkq : Kept w5 wq) (hs : w5.heap.size + 1 ≤ wq.heap.size) (hb : wq.heap[w5.heap.size]? = some (.cells #[.string to, sv] 40 (0, 0))) (hv : rowT wq (w5.heap.size + 1) sv F)
    (o : Obj) (hown : w8.ownsRow (w5.heap.size + 1) 9 1 v8 (F ++ [s]).length (txs (F ++ [s]))) (hg : (wq.alloc o).grownBy w8 sv.ownBlock) (hd : (wq.alloc o).drawn ≤ w8.drawn) :
    w8.heap[w5.heap.size]? = some (.cells #[.string to, sv] 40 (0, 0)) ∧ Kept w5 (w8.setCell ⟨w5.heap.size, 1, none⟩ v8) ∧ w5.heap.size + 1 ≤ (w8.setCell ⟨w5.heap.size, 1, none⟩ v8).heap.size ∧ (w8.setCell ⟨w5.heap.size, 1, none⟩ v8).heap[w5.heap.size]? = some (.cells #[.string to, v8] 40 (0, 0)) ∧ rowT (w8.setCell ⟨w5.heap.size, 1, none⟩ v8) (w5.heap.size + 1) v8 (F ++ [s]) := by
  have hne : some w5.heap.size ≠ sv.ownBlock := fun e => by have := own_ge hv _ e.symm; omega
  have hb8 : w8.heap[w5.heap.size]? = some (.cells #[.string to, sv] 40 (0, 0)) := by
    rw [hg.block w5.heap.size (by rw [World.size_alloc]; omega) hne, Below.heap_alloc _ _ _ (by omega)]
    exact hb
  have hk8 : Kept w5 w8 := kept_grown0 (hkq.al o) hg (fun b hb => by have := own_ge hv b hb; omega) hd
  have hsz : w5.heap.size + 1 ≤ w8.heap.size := by have := hg.size; rw [World.size_alloc] at this; omega
  refine ⟨hb8, hk8.set _ (Nat.le_refl _) _, by simpa using hsz, ?_, own_other hown _ _ fun q => ?_⟩
  · exact set_block hb8 1 v8
  · have : w5.heap.size + 1 ≤ w5.heap.size := own_ge hown _ q
    omega
theorem split_set {V w6 : World} {base gb I L cap B : Nat} {l : List TConfigGroup} {ps : List (ByteArray × Value)} {x : TConfigGroup} {px : ByteArray} {v0 v' : Value} {s : List ByteArray} (hc : Cpx V base gb l ps)
    (ho : V.ownsRow B 40 2 (.slice (some ⟨gb, 0, none⟩) L cap) L (cellsG ps)) (hx : l[I]? = some x) (hq : ps[I]? = some (px, v0)) (hk : Kno (fun k => v0.ownBlock = some k) V w6) (hv : rowT w6 base v' s) (hb : v'.ownBlock = v0.ownBlock) :
    w6.heap[gb]? = V.heap[gb]? ∧ Cpx (w6.setCell ⟨gb, I * 2 + 1, none⟩ v') base gb (l.set I ⟨x.Position, s⟩) (ps.set I (px, v')) ∧ (w6.setCell ⟨gb, I * 2 + 1, none⟩ v').ownsRow B 40 2 (.slice (some ⟨gb, 0, none⟩) L cap) L (cellsG (ps.set I (px, v'))) := by
  have hout := hc.out
  have hgb : w6.heap[gb]? = V.heap[gb]? := hk.blk gb (ho.lt gb rfl).2 (fun e => by have := (hc.blk hq gb e).1; omega)
  refine ⟨hgb, hc.put hx hq (fun k r b hk' hr hb' => ?_) (own_other hv _ _ fun q => ?_), ?_⟩
  · have hbb := hc.blk hr b hb'
    have hne : v0.ownBlock ≠ some b := fun q => hk' (hc.sep k I r _ b hr hq hb' q)
    refine ⟨?_, fun q => hne (by rw [← hb]; exact q)⟩
    rw [Below.heap_setCell _ _ _ _ (by show b ≠ gb; omega)]
    exact hk.blk b hbb.2 hne
  · rw [hb] at q
    have : base ≤ gb := (hc.blk hq _ q).1
    omega
  · have h1 := (outer_moved (W' := w6) ho (fun b hb => by cases hb; exact hgb)).stored (2 * I + 1) v'
    rw [cellsG_set ps I px v0 v' hq, Nat.mul_comm 2 I] at h1
    exact h1.1
theorem split_add {W7 w9 : World} {base gb : Nat} {l7 : List TConfigGroup} {ps7 : List (ByteArray × Value)} {to : ByteArray} {Y : List ByteArray} {sv : Value} {o : Obj} (hc : Cpx W7 base gb l7 ps7) (hsv : rowT W7 base sv Y) (hg : (W7.alloc o).grownBy w9 (some gb)) :
    ∃ zs : List (TConfigGroup × Value), zs.map (·.1) = l7 ++ [⟨to, Y⟩] ∧ cellsZ zs = cellsG ps7 ++ [.string to, sv] ∧ ∀ z ∈ zs, rowT w9 base z.2 z.1.Sectors ∧ ∀ k, z.2.ownBlock = some k → k ≠ gb ∧ k < W7.heap.size := by
  obtain ⟨zs, h1, h2, h3⟩ := hc.zip
  have hout := hc.out
  have key : ∀ (v : Value) (s : List ByteArray), rowT W7 base v s → rowT w9 base v s ∧ ∀ k, v.ownBlock = some k → k ≠ gb ∧ k < W7.heap.size := fun v s h => by
    have hl := h.lt
    refine ⟨row_moved h fun b hb => ?_, fun k hk => ⟨by have := (hl k hk).1; omega, (hl k hk).2⟩⟩
    have := hl b hb
    rw [hg.block b (by rw [World.size_alloc]; omega) (fun e => by have := Option.some.inj e; omega), Below.heap_alloc _ _ _ this.2]
  refine ⟨zs ++ [(⟨to, Y⟩, sv)], by rw [List.map_append, h1]; rfl, by unfold cellsZ at *; rw [List.flatMap_append, h2]; rfl, fun z hz => ?_⟩
  rcases List.mem_append.1 hz with hz | hz
  · exact key _ _ (h3 z hz)
  · rw [List.mem_singleton.1 hz]
    exact key _ _ hsv
theorem split_end {w9 w10 : World} {base gb S : Nat} {zs zs2 : List (TConfigGroup × Value)} {v9 : Value} (hS : S ≤ w9.heap.size) (hz : ∀ z ∈ zs, rowT w9 base z.2 z.1.Sectors ∧ ∀ k, z.2.ownBlock = some k → k ≠ gb ∧ k < S) (hp : zs2.Perm zs) (hk : Kno (fun k => v9.ownBlock = some k) w9 w10) (hf : ∀ b, v9.ownBlock = some b → b = gb ∨ S ≤ b) :
    ∀ z ∈ zs2, rowT w10 base z.2 z.1.Sectors := fun z hz2 => by
  obtain ⟨h1, h2⟩ := hz z (hp.mem_iff.1 hz2)
  refine row_moved h1 fun b hb => hk.blk b (h1.lt b hb).2 fun q => ?_
  have := h2 b hb
  rcases hf b q with e | e <;> omega
theorem two_cells (W : World) (x y : Value) (T : TypeId) : ∀ j u, ([x, y] : List Value)[j]? = some u → (W.alloc (.cells #[x, y] T)).cell? ((⟨W.heap.size, 0, none⟩ : Addr).add j) = some u := by
  intro j u hu
  have hh : (W.alloc (.cells #[x, y] T)).heap[W.heap.size]? = some (.cells #[x, y] T (0, 0)) := World.alloc_heap_new W _
  rw [show (⟨W.heap.size, 0, none⟩ : Addr).add j = ⟨W.heap.size, j, none⟩ by unfold Addr.add; split <;> simp_all]
  match j, hu with
  | 0, hu => simp only [World.cell?, hh]; simpa using hu
  | 1, hu => simp only [World.cell?, hh]; simpa using hu
  | j + 2, hu => simp at hu
theorem order_calls {w : World} {base : Nat} {v : Value} {zs : List (TConfigGroup × Value)} {r : List TConfigGroup} (h : w.ownsRow base 40 2 v zs.length (cellsZ zs)) (hok : ∀ z ∈ zs, ZOk z) (hne : zs ≠ []) (hn : zs.length ≤ 1000) (hs : sortO cmpZ (zs.map (·.1)) = some r) :
    Calls Try.prog 26 #[v] w fun e w' => e = .returned (.tuple #[]) ∧ ∃ zs' : List (TConfigGroup × Value), zs'.map (·.1) = r ∧ zs'.Perm zs ∧ w'.ownsRow base 40 2 v zs'.length (cellsZ zs') ∧ Kno (fun k => v.ownBlock = some k) w w' := by
  have hc := order_row h hok hne hn hs
  obtain ⟨a, cap, rfl⟩ := own_slice h
  clear h
  generalize zs.length = L at *
  go_enter Try.func26, Try.ntmps26
  go_wp2_with fail
  refine hc.mono ?_
  rintro e w' ⟨rfl, hw⟩
  clear hc
  go_wp2_with fail
  exact bodyPost_end (results_none rfl _ _ _) rfl ⟨rfl, hw⟩
set_option maxRecDepth 100000 in
set_option maxHeartbeats 16000000 in
theorem split_calls {w : World} {n : Nat} {l : List TConfigGroup} {from_ to : ByteArray} {names : List ByteArray} {t : ρ9} (h : g9 n l from_ to names = some t) {lv nv : Value} (hl : VRel (cxA (fun _ => False) w) (lstA TConfigGroup.E l) lv) (hn : VRel (cxA (fun _ => False) w) (lstA strE names) nv) :
    Calls Try.prog 9 #[lv, .string from_, .string to, nv] w fun e w' => ∃ v', e = .returned (.tuple #[v', .int .i64 t.2]) ∧ Kept w w' ∧ VRel (cxA (fun k => k < w.heap.size) w') (lstA TConfigGroup.E t.1) v' := by
  obtain ⟨la, lc, rfl⟩ := slice_lenE hl
  obtain ⟨na, nc, rfl⟩ := slice_lenE hn
  unfold g9 at h
  obtain ⟨e0, he0, h⟩ := Option.bind_eq_some_iff.1 h
  have hcK := fun W (hk : Kept w W) => says_kK (sg11 he0) (w := w) (.cons hl .nil) W hk
  have nilrel : ∀ W : World, VRel (cxA (fun k => k < w.heap.size) W) (lstA TConfigGroup.E []) (.slice none 0 0) := fun W => .lst0 none 0 false (fun h => by cases h) (Nat.zero_le _) (fun _ => rfl)
  by_cases h0 : e0 = 0
  case neg =>
    rw [bne_iff_ne.2 h0, cond_true] at h
    cases h
    have hb : (e0 != 0) = true := bne_iff_ne.2 h0
    clear hl hn he0
    generalize hL : l.length = L at *
    generalize hN : names.length = N at *
    go_enter Try.func9, Try.ntmps9
    go_wp2_with fail
    refine (hcK _ ((Kept.refl w).al _)).mono ?_
    rintro e w1 ⟨v1, rfl, hk1, hv1⟩
    obtain rfl := int_of2 hv1
    clear hcK hv1
    go_wp2_with fail
    refine bodyPost_ret (results_tmp2 rfl _ _ _) rfl ?_
    exact ⟨_, rfl, ((Kept.refl w).al _).trans hk1, nilrel _⟩
  subst h0
  rw [show ((0 : Int) != 0) = false from rfl, cond_false] at h
  obtain ⟨i, hi, h⟩ := Option.bind_eq_some_iff.1 h
  have hcI := fun W (hK : Kept w W) => says_kK (sg19 hi) (w := w) (.cons hl (.cons (.sc _ rfl) .nil)) W hK
  replace h := Lib.hid h
  have HL := Lib.hid (And.intro hl hn)
  have hN63 := lst_len63 hn
  clear hl hn he0 hi
  change Int at i
  generalize hL : l.length = L at *
  generalize hN : names.length = N at *
  go_enter Try.func9, Try.ntmps9
  go_wp2_with fail
  refine (hcK _ ((Kept.refl w).al _)).mono ?_
  rintro e w1 ⟨v1, rfl, hk1, hv1⟩
  obtain rfl := int_of2 hv1
  have hb1 := (Bx.new w 23 (.slice na N nc)).kept hk1
  have hk01 : Kept w w1 := ((Kept.refl w).al _).trans hk1
  have hB1 := Lib.hid hb1
  clear hb1
  go_wp2_with fail
  refine (hcI w1 hk01).mono ?_
  rintro e w2 ⟨v2, rfl, hk2, hv2⟩
  obtain rfl := int_of2 hv2
  have hk02 := hk01.trans hk2
  clear hcK hcI hv1 hv2
  by_cases hi0 : i < 0
  · have h := h.out
    rw [if_pos hi0] at h
    cases h
    go_wp2_with fail
    refine bodyPost_ret (results_tmp2 rfl _ _ _) rfl ?_
    exact ⟨_, rfl, hk02, nilrel _⟩
  have h2 := h.out
  rw [if_neg hi0] at h2
  obtain ⟨b, hb, h2⟩ := Option.bind_eq_some_iff.1 h2
  have hcN := fun W (hK : Kept w W) => says_kK (sg22 hb) (w := w) (.cons (.sc _ rfl) .nil) W hK
  clear h
  have H2 := Lib.hid h2
  clear h2 hb
  go_wp2_with fail
  refine (hcN w2 hk02).mono ?_
  rintro e w3 ⟨v3, rfl, hk3, hv3⟩
  obtain rfl := bool_of hv3
  have hk03 := hk02.trans hk3
  clear hcN hv3
  cases b with
  | false =>
    have h := H2.out
    rw [Bool.not_false, cond_true] at h
    cases h
    go_wp2_with fail
    refine bodyPost_ret (results_tmp2 rfl _ _ _) rfl ?_
    exact ⟨_, rfl, hk03, nilrel _⟩
  | true =>
  have h3 := H2.out
  rw [Bool.not_true, cond_false] at h3
  obtain ⟨k, hk, h3⟩ := Option.bind_eq_some_iff.1 h3
  have hcJ := fun W (hK : Kept w W) => says_kK (sg19 hk) (w := w) (.cons HL.out.1 (.cons (.sc _ rfl) .nil)) W hK
  change Int at k
  clear H2
  have H3 := Lib.hid h3
  clear h3 hk
  go_wp2_with fail
  refine (hcJ w3 hk03).mono ?_
  rintro e w4 ⟨v4, rfl, hk4, hv4⟩
  obtain rfl := int_of2 hv4
  have hk04 := hk03.trans hk4
  clear hcJ hv4
  by_cases hk0 : k ≥ 0
  · have h := H3.out
    rw [if_pos hk0] at h
    cases h
    go_wp2_with fail
    refine bodyPost_ret (results_tmp2 rfl _ _ _) rfl ?_
    exact ⟨_, rfl, hk04, nilrel _⟩
  have h4 := H3.out
  rw [if_neg hk0] at h4
  obtain ⟨x, hx, h4⟩ := Option.bind_eq_some_iff.1 h4
  clear H3
  obtain ⟨I, rfl⟩ : ∃ I : Nat, i = (I : Int) := ⟨i.toNat, (Int.toNat_of_nonneg (by omega)).symm⟩
  rw [Int.toNat_natCast] at hx h4
  have hxL := some_ltC hx
  rw [hL] at hxL
  have hb4 : Bx w4 w.heap.size 23 (.slice na N nc) := hB1.out.kept ((hk2.trans hk3).trans hk4)
  have hbc := hb4.cell
  have hne : l ≠ [] := by rintro rfl; cases hx
  obtain ⟨lb, lo, lcap, hlv, hlb, -, hcl⟩ := lst_openV (((hk04.kno _)).rel HL.out.1 (lstA_clean _ _)) hne
  rw [hL] at hlv
  cases hlv
  obtain ⟨xv, hxc, hxr⟩ := hcl I x hx 1 (lstA strE x.Sectors) (by decide) rfl
  obtain ⟨xa, xc, rfl⟩ := slice_lenE hxr
  have hxc : w4.cell? ⟨lb, lo + I * 2 + 1, none⟩ = some (.slice xa x.Sectors.length xc) := hxc
  have hcX := fun s => con_calls hxr s
  have HX := Lib.hid (And.intro hx (And.intro h4 hxr))
  have HC := Lib.hid hcl
  have hIL : (I : Int) < (L : Int) := by omega
  clear hx h4 hxr hcl
  generalize hSx : x.Sectors.length = Sx at *
  go_wp2_with fail
  go_loopw [13, 40] (fun u i wr => ∃ j : Nat, j ≤ N ∧ i = .int .i64 j ∧ w4 = wr ∧ Hid (∀ k, k < j → ∀ s, names[k]? = some s → hasL x.Sectors s = true)) (fun _ i => fun _ => N - (intOf i).toNat)
  case atStart => exact ⟨0, Nat.zero_le _, rfl, rfl, Lib.hid (fun k hk => absurd hk (Nat.not_lt_zero _))⟩
  case round =>
    obtain ⟨j, hj, rfl, rfl, hall⟩ := hrel
    by_cases hlt : j < N
    · have hs : names[j]? = some names[j] := List.getElem?_eq_getElem (by omega)
      generalize names[j] = s at hs
      have hnr : VRel (cxA (fun _ => False) w4) (lstA strE names) (.slice na N nc) := (hk04.kno _).rel HL.out.2 (lstA_clean _ _)
      obtain ⟨nb, no_, ncap, hnv, hnb, -, hcn⟩ := lst_open hnr (by rintro rfl; cases hs)
      rw [hN] at hnv
      cases hnv
      have hsc : w4.cell? ⟨nb, no_ + j, none⟩ = some (.string s) := by
        have := hcn j s hs 0 (.string s) (by decide) rfl
        rwa [show no_ + (j * strE.size + 0) = no_ + j by show no_ + (j * 1 + 0) = _; omega] at this
      have hcs := hcX s
      have d1 : (j : Int) < (N : Int) := by omega
      clear hnr hcn hcX
      have HS := Lib.hid hs
      clear hs
      cases hq : hasL x.Sectors s with
      | false =>
        rw [hq] at hcs
        have HQ := Lib.hid hq
        clear hq
        go_wp2_with fail
        refine hcs.mono ?_
        rintro e w' ⟨rfl, rfl⟩
        clear hcs
        go_wp2_with fail
        refine bodyPost_ret (results_tmp2 rfl _ _ _) rfl ?_
        have h := HX.out.2.1
        rw [Bool.eq_false_iff.2 (show names.all (hasL x.Sectors) ≠ true from fun q => by
          have := List.all_eq_true.1 q s (List.mem_of_getElem? HS.out)
          rw [HQ.out] at this
          cases this), Bool.not_false, cond_true] at h
        cases h
        exact ⟨_, rfl, hk04, nilrel _⟩
      | true =>
        rw [hq] at hcs
        have HQ := Lib.hid hq
        clear hq
        go_wp2_with fail
        refine hcs.mono ?_
        rintro e w' ⟨rfl, rfl⟩
        clear hcs
        go_wp2_with fail
        refine ⟨⟨j + 1, hlt, by rw [show (j : Int) + 1 = ((j + 1 : Nat) : Int) by omega], by first | rfl | trivial, Lib.hid fun k hk s' hs' => ?_⟩, by simp [intOf]; omega⟩
        rcases Nat.lt_succ_iff_lt_or_eq.1 hk with q | rfl
        · exact hall.out k q s' hs'
        · rw [HS.out] at hs'
          cases hs'
          exact HQ.out
    · obtain rfl : j = N := by omega
      have hlt' : ¬ (j : Int) < (j : Int) := by omega
      have hyes : names.all (hasL x.Sectors) = true := by
        rw [List.all_eq_true]
        intro s hs
        obtain ⟨k, hk⟩ := List.getElem?_of_mem hs
        exact hall.out k (by have := some_ltC hk; omega) s hk
      have h5 := HX.out.2.1
      rw [hyes, Bool.not_true, cond_false] at h5
      have hx := HX.out.1
      have hxr := HX.out.2.2
      clear hcX HX hall hyes
      split at h5
      case isFalse => cases h5
      rename_i hroom
      have hne' : l ≠ [] := by rintro rfl; cases hx
      have hcCp := fun W (hK : Kept w W) => copied_calls ((hK.kno _).rel HL.out.1 (lstA_clean _ _)) hne' (by omega) (fun g hg => (hroom.2.2 g hg).1)
      rw [hL] at hcCp
      have HX := Lib.hid (And.intro hx (And.intro h5 (And.intro hxr hroom)))
      clear hx h5 hxr hne'
      go_wp2_with fail
      refine (hcCp w4 hk04).mono ?_
      rintro e w5 ⟨gb, cap, ps, base, rfl, hk5, hg1, hown, hcps, hbs⟩
      clear hcCp
      have hk05 := hk04.trans hk5
      have HXC := Lib.hid (fun W (hk : Kept w4 W) => (hk.cell (a := ⟨lb, lo + I * 2 + 1, none⟩) hlb).trans hxc)
      have hxc5 : (w5.alloc (.cells #[.string to, .slice none 0 0] 40)).cell? ⟨lb, lo + I * 2 + 1, none⟩ = some (.slice xa Sx xc) := (((hk5.al _)).cell hlb).trans hxc
      have CE := Lib.hid (And.intro hcps (And.intro hown (And.intro hg1 hbs)))
      have hB4 := Lib.hid hb4
      clear hcps hown hxc hbc hb4
      obtain ⟨i0, hi, hzz⟩ := Option.bind_eq_some_iff.1 infoTxt
      obtain ⟨z0, hz0, hzz⟩ := Option.map_eq_some_iff.1 hzz
      simp only [Prod.mk.injEq] at hzz
      obtain ⟨hzc, hz1, hz2⟩ := hzz
      have hSx1 : Sx ≤ 1000 := hroom.2.1
      go_wp2_with fail
      go_loopw [17, 63] (fun u i wq => ∃ (j : Nat) (sv : Value), j ≤ Sx ∧ i = .int .i64 j ∧ Kept w5 wq ∧ w5.heap.size + 1 ≤ wq.heap.size ∧ Hid (wq.heap[w5.heap.size]? = some (.cells #[.string to, sv] 40 (0, 0))) ∧ Hid (rowT wq (w5.heap.size + 1) sv ((x.Sectors.take j).filter (hasL names)))) (fun _ i => fun _ => Sx - (intOf i).toNat)
      case atStart => exact ⟨0, .slice none 0 0, Nat.zero_le _, rfl, (Kept.refl _).al _, by simp, Lib.hid (World.alloc_heap_new _ _), Lib.hid (World.ownsRow_nil _ _ _ _)⟩
      case round =>
        obtain ⟨m, sv, hm, rfl, hkq, hsq, hbq, hrq⟩ := hrel
        have hbx := (hB4.out.kept (hk5.trans hkq)).cell
        by_cases hlt : m < Sx
        · obtain ⟨sa, sc, rfl⟩ := own_slice hrq.out
          obtain ⟨g1, g2⟩ := both2 hbq.out
          have hs : x.Sectors[m]? = some x.Sectors[m] := List.getElem?_eq_getElem (by omega)
          generalize x.Sectors[m] = s at hs
          have hxq := ((hk5.trans hkq).kno _).rel HX.out.2.2.1 (lstA_clean _ _)
          obtain ⟨xb, xo, xcap, hxv, hxb, -, hcx⟩ := lst_open hxq (by rintro e; rw [e] at hs; cases hs)
          rw [hSx] at hxv
          cases hxv
          have hsc : wr.cell? ⟨xb, xo + m, none⟩ = some (.string s) := by
            have := hcx m s hs 0 (.string s) (by decide) rfl
            rwa [show xo + (m * strE.size + 0) = xo + m by show xo + (m * 1 + 0) = _; omega] at this
          have hcs := con_calls (((hk05.trans hkq).kno _).rel HL.out.2 (lstA_clean _ _)) s
          have d1 : (m : Int) < (Sx : Int) := by omega
          have hFl : ((x.Sectors.take m).filter (hasL names)).length ≤ 1000 := by
            have := List.length_filter_le (hasL names) (x.Sectors.take m)
            rw [List.length_take] at this
            omega
          have hfs := filt_step (p := hasL names) hs
          have HS := Lib.hid (And.intro hs hfs)
          clear hs hfs hcx hxq
          generalize hF : (x.Sectors.take m).filter (hasL names) = F at *
          cases hq : hasL names s with
          | false =>
            rw [hq] at hcs
            have HQ := Lib.hid hq
            clear hq
            go_wp2_with fail
            refine hcs.mono ?_
            rintro e w' ⟨rfl, rfl⟩
            clear hcs
            go_wp2_with fail
            refine ⟨⟨m + 1, _, hlt, by rw [show (m : Int) + 1 = ((m + 1 : Nat) : Int) by omega], hkq, hsq, hbq, ?_⟩, by simp [intOf]; omega⟩
            refine Lib.hid ?_
            rw [HS.out.2, if_neg (by rw [HQ.out]; decide), List.append_nil]
            exact hrq.out
          | true =>
            rw [hq] at hcs
            have HQ := Lib.hid hq
            clear hq
            have hrow := hrq.out
            have HR := hrq
            go_wp2_with fail
            refine hcs.mono ?_
            rintro e w' ⟨rfl, rfl⟩
            clear hcs
            go_wp2_with (at_builtin; refine wpList_append_b _ rfl _ _ 23 rfl (w5.heap.size + 1) 9 i0 z0 1 16 Try.underlying23 hi hz0 hz1 hz2 hzc (by decide) (.slice sa F.length sc) F.length (txs F) rfl ?c0 ⟨w'.heap.size, 0, none⟩ 1 1 [.string s] rfl rfl ?c1 ?c2 ?c3 ?c4 ?c5 ?_)
            case c0 => exact hrow.alloc _
            case c1 => exact new1 _ _ _
            case c2 => intro u hu; rw [List.mem_singleton.1 hu]; rfl
            case c3 => simp only [maxLen]; omega
            case c4 => omega
            case c5 => rw [World.size_alloc]; omega
            intro v8 w8 hown8 hgrow8 hfr8 hdr8
            obtain ⟨va, vc, rfl⟩ := own_slice hown8
            have hfin := grp_grow hkq hsq hbq.out hrow (.cells #[.string s] 9) (by rw [txs_app, List.length_append]; exact hown8) hgrow8 hdr8
            obtain ⟨hb8, hfin⟩ := hfin
            obtain ⟨z1, z2⟩ := both2 hb8
            have z3 : w8.frozen? ⟨w5.heap.size, 1, none⟩ = false := by simp [World.frozen?, hb8]
            have FIN := Lib.hid hfin
            clear hfin hb8 hrow hown8 hgrow8 hfr8 hdr8
            go_wp2_with fail
            refine ⟨⟨m + 1, _, hlt, by rw [show (m : Int) + 1 = ((m + 1 : Nat) : Int) by omega], FIN.out.1, FIN.out.2.1, Lib.hid FIN.out.2.2.1, ?_⟩, by simp [intOf]; omega⟩
            refine Lib.hid ?_
            rw [HS.out.2, if_pos (by rw [HQ.out])]
            exact FIN.out.2.2.2
        · have hmS : Sx = m := by omega
          subst hmS
          have hrY := hrq.out
          rw [List.take_of_length_le (by omega)] at hrY
          obtain ⟨sa, sc, rfl⟩ := own_slice hrY
          obtain ⟨g1, g2⟩ := both2 hbq.out
          have hxc8 := HXC.out wr (hk5.trans hkq)
          have h5 := HX.out.2.1
          have hlt' : ¬ (Sx : Int) < (Sx : Int) := by omega
          have HRY := Lib.hid hrY
          clear hrY hrq
          have HYL := Lib.hid (List.length_filter_le (hasL names) x.Sectors)
          generalize hY : x.Sectors.filter (hasL names) = Y at *
          generalize hy : Y.length = y at *
          by_cases hy0 : y = 0
          · rw [if_pos (.inl hy0)] at h5
            subst hy0
            cases h5
            go_wp2_with fail
            go_quiet (fail)
            go_wp2_with fail
            refine bodyPost_ret (results_tmp2 rfl _ _ _) rfl ?_
            exact ⟨_, rfl, by first | exact hk05.trans hkq | exact (hk05.trans hkq).drewN _, nilrel _⟩
          have hyz : ((y : Int) == 0) = false := beq_eq_false_iff_ne.2 (by omega)
          by_cases hyS : y = Sx
          · rw [if_pos (.inr hyS)] at h5
            subst hyS
            cases h5
            go_wp2_with fail
            go_quiet (fail)
            go_wp2_with fail
            refine bodyPost_ret (results_tmp2 rfl _ _ _) rfl ?_
            exact ⟨_, rfl, by first | exact hk05.trans hkq | exact (hk05.trans hkq).drewN _, nilrel _⟩
          have hyT : ((y : Int) == (Sx : Int)) = false := beq_eq_false_iff_ne.2 (by omega)
          rw [if_neg (not_or.2 ⟨hy0, hyS⟩)] at h5
          go_wp2_with fail
          go_quiet (fail)
          -- the facts in the world at hand
          have hkV : Kept w5 (wr.drewN nq) := hkq.trans ((Kept.refl wr).drewN nq)
          have hcV : Cpx (wr.drewN nq) base gb l ps := (CE.out.1.cpx hL.symm).moved fun k q b hq hb => hkV.blk b ((CE.out.1.cpx hL.symm).blk hq b hb).2
          have hoV := own_kept CE.out.2.1 hkV
          have hyV : rowT (wr.drewN nq) (w5.heap.size + 1) (.slice sa y sc) Y := own_kept HRY.out ((Kept.refl wr).drewN nq)
          have hgV : (wr.drewN nq).heap[w5.heap.size]? = some (.cells #[.string to, .slice sa y sc] 40 (0, 0)) := hbq.out
          have hxV : Bx (wr.drewN nq) w.heap.size 23 (.slice na j nc) := hB4.out.kept (hk5.trans hkV)
          have hbs := CE.out.2.2.2
          have CE0 := CE
          have hg1 := CE.out.2.2.1
          have hx := HX.out.1
          have hyl := HYL.out
          have hbx4 := heap_lt hB4.out
          obtain ⟨r, hr, ht⟩ := Option.map_eq_some_iff.1 h5
          clear hbx g1 g2 hxc8 HXC hbq HRY hxc5 h5 hkq hsq CE
          generalize wr.drewN nq = V at *
          obtain ⟨q, hq⟩ : ∃ q, ps[I]? = some q := ⟨_, List.getElem?_eq_getElem (by rw [hcV.len, hL]; exact hxL)⟩
          have hrowx := (hcV.row I x q hx hq).2
          obtain ⟨px, vx⟩ := q
          obtain ⟨xa', xc', rfl⟩ := own_slice hrowx
          have hk0V : Kept w V := hk05.trans hkV
          have hout := hcV.out
          have hws := hk04.size
          have hw5 := hk5.size
          have hcD := delf_row (no := fun k => w.heap.size ≤ k) (names := names) (nv := .slice na j nc) (bx := w.heap.size) hrowx (by rintro e; rw [e] at hSx; have := (hroom.2.2 x (List.mem_of_getElem? hx)).2; rw [e] at this; simp at this) (by omega) hxV ((hk0V.kno _).rel (rel_up HL.out.2 (lstA_clean _ _)) (lstA_clean _ _)) (fun e => by have := (hcV.blk hq _ e).1; omega) (fun k hk => by have := (hcV.blk hq k hk).1; show w.heap.size ≤ k; omega)
          rw [hSx] at hcD hq hrowx
          have c1 : V.cell? ⟨gb, I * 2 + 1, none⟩ = some (.slice xa' Sx xc') := by
            rw [Nat.mul_comm, hoV.cellAt (2 * I + 1) (by omega)]
            exact (cellsG_at hq).2
          have HV := Lib.hid (And.intro hcV (And.intro hoV (And.intro hyV (And.intro hgV (And.intro hx (And.intro hr (And.intro ht (And.intro hq (And.intro hk0V hkV)))))))))
          clear hcV hoV hyV hgV hx hr ht hq hxV hrowx hk0V hkV
          go_wp2_with fail
          refine hcD.mono ?_
          rintro e w6 ⟨v6, rfl, hrow6, hvb6, hk6⟩
          clear hcD c1
          obtain ⟨hcV, hoV, hyV, hgV, hx, hr, ht, hq, hk0V, hkV⟩ := HV.out
          obtain ⟨hb6, hc7, ho7⟩ := split_set hcV hoV hx hq hk6 hrow6 hvb6
          have hxblk : ∀ b, (Value.slice xa' Sx xc').ownBlock = some b → base ≤ b ∧ b < w5.heap.size := fun b hb => by
            have := (CE0.out.1.cpx hL.symm).blk hq b hb
            exact this
          have u1 : w6.cell? ⟨gb, I * 2 + 1, none⟩ = some (.slice xa' Sx xc') := by
            have h1 : V.cell? ⟨gb, I * 2 + 1, none⟩ = some (.slice xa' Sx xc') := by
              rw [Nat.mul_comm, hoV.cellAt (2 * I + 1) (by omega)]
              exact (cellsG_at hq).2
            rw [← h1]
            simp only [World.cell?, hb6]
          have u2 : w6.frozen? ⟨gb, I * 2 + 1, none⟩ = false := by
            have h1 : V.frozen? ⟨gb, I * 2 + 1, none⟩ = false := by rw [Nat.mul_comm]; exact hoV.frozenAt (2 * I + 1)
            rw [← h1]
            simp only [World.frozen?, hb6]
          have hgb5 : gb < w5.heap.size := by omega
          have h57 : w5.heap.size ≤ V.heap.size := hkV.size
          have hkw6 : Kept w w6 := hk6.kept hk0V.size (fun k hk => by have := (hxblk k hk).1; omega) hk0V
          have hkw7 := hkw6.set ⟨gb, I * 2 + 1, none⟩ (by show w.heap.size ≤ gb; omega) v6
          have hgV5 := heap_lt hgV
          have hg7 : (w6.setCell ⟨gb, I * 2 + 1, none⟩ v6).heap[w5.heap.size]? = some (.cells #[.string to, .slice sa y sc] 40 (0, 0)) := by
            rw [Below.heap_setCell _ _ _ _ (by show w5.heap.size ≠ gb; omega), hk6.blk _ hgV5 (fun e => by have := (hxblk _ e).2; omega)]
            exact hgV
          have hy7 : rowT (w6.setCell ⟨gb, I * 2 + 1, none⟩ v6) base (.slice sa y sc) Y := by
            have := row_moved (W' := w6.setCell ⟨gb, I * 2 + 1, none⟩ v6) hyV fun b hb => by
              have hb' := hyV.lt b hb
              rw [Below.heap_setCell _ _ _ _ (by show b ≠ gb; omega), hk6.blk b hb'.2 (fun e => by have := (hxblk _ e).2; omega)]
            exact own_base this (fun b hb => by have := (this.lt b hb).1; omega)
          have hs7 : w5.heap.size + 1 ≤ (w6.setCell ⟨gb, I * 2 + 1, none⟩ v6).heap.size := by have := heap_lt hg7; omega
          have hvS : v6 = v6 := rfl
          obtain ⟨va6, vc6, hv6⟩ := own_slice hrow6
          have HW := Lib.hid (And.intro hc7 (And.intro ho7 (And.intro hg7 (And.intro hy7 (And.intro hkw7 (And.intro hr (And.intro ht hs7)))))))
          clear hcV hoV hyV hgV hx hr ht hq hk0V hkV hc7 ho7 hg7 hy7 hkw6 hkw7 hb6 hrow6 HV hvS
          subst hv6
          generalize (x.Sectors.filter fun s => !hasL names s).length = n6 at *
          obtain ⟨p1, p2⟩ := both2 HW.out.2.2.1
          obtain ⟨i1, hj, hzz⟩ := Option.bind_eq_some_iff.1 infoGrp
          obtain ⟨y1, hy0', hzz⟩ := Option.map_eq_some_iff.1 hzz
          simp only [Prod.mk.injEq] at hzz
          obtain ⟨hyc, hy1, hy2⟩ := hzz
          have ho7 := HW.out.2.1
          go_wp2_with (at_builtin; refine wpList_append_b _ rfl _ _ 22 rfl w.heap.size 40 i1 y1 2 40 Try.underlying22 hj hy0' hy1 hy2 hyc (by decide) (.slice (some ⟨gb, 0, none⟩) L cap) L (cellsG (ps.set I (px, .slice va6 n6 vc6))) rfl ?c0 ⟨w6.heap.size, 0, none⟩ 1 1 [.string to, .slice sa y sc] rfl rfl ?c1 ?c2 ?c3 ?c4 ?c5 ?_)
          case c0 => exact (own_le ho7 hws).alloc _
          case c1 =>
            intro j u hu
            have := two_cells (w6.setCell ⟨gb, I * 2 + 1, none⟩ (.slice va6 n6 vc6)) (.string to) (.slice sa y sc) 40 j u hu
            simpa using this
          case c2 =>
            intro u hu
            rcases List.mem_cons.1 hu with rfl | hu
            · rfl
            · rw [List.mem_singleton.1 hu]; rfl
          case c3 => simp only [maxLen]; omega
          case c4 => omega
          case c5 =>
            have := HW.out.2.2.2.2.1.size
            rw [World.size_alloc]
            omega
          intro v9 w9 hown9 hgrow9 hfr9 hdr9
          obtain ⟨hc7, ho7', hg7, hy7, hkw7, hr, ht, hs7⟩ := HW.out
          have hd7 : (w6.setCell ⟨gb, I * 2 + 1, none⟩ (.slice va6 n6 vc6)).drawn ≤ w9.drawn := hdr9
          have hf7 : ∀ b, v9.ownBlock = some b → b = gb ∨ (w6.setCell ⟨gb, I * 2 + 1, none⟩ (.slice va6 n6 vc6)).heap.size ≤ b := fun b hb => by
            rcases hfr9 b hb with q | q
            · left; cases q; rfl
            · right; simp at q ⊢; omega
          generalize hW7 : w6.setCell ⟨gb, I * 2 + 1, none⟩ (.slice va6 n6 vc6) = W7 at *
          obtain ⟨zs, hz1, hz2, hz3⟩ := split_add hc7 hy7 hgrow9
          have hkw9 : Kept w w9 := kept_grown0 (hkw7.al _) hgrow9 (fun b hb => by cases hb; show w.heap.size ≤ gb; omega) hd7
          rw [← hz2] at hown9
          have hzl : zs.length = L + 1 := by rw [← List.length_map (f := (·.1)), hz1, List.length_append, List.length_set, hL]; rfl
          have hfr9' := hf7
          have hW7s := hkw7.size
          have hS9 : W7.heap.size ≤ w9.heap.size := by have := hgrow9.size; rw [World.size_alloc] at this; omega
          have hcO := order_calls (w := w9) (base := w.heap.size) (v := v9) (zs := zs) (r := r) (by rw [hzl]; exact hown9) (fun z hz => by obtain ⟨a, c, q⟩ := own_slice (hz3 z hz).1; exact ⟨a, _, c, q⟩) (by rintro rfl; simp at hzl) (by omega) (by rw [hz1]; exact hr)
          obtain ⟨va9, vc9, rfl⟩ := own_slice hown9
          have HZ := Lib.hid (And.intro hz3 (And.intro hkw9 (And.intro ht (And.intro hfr9' (And.intro hS9 hc7.out)))))
          have hgbw : w.heap.size ≤ gb := by omega
          clear hc7 ho7' hg7 hy7 hkw7 hr ht hs7 hz1 hz2 hz3 hkw9 hown9 hgrow9 hfr9 hfr9' hf7 hd7 hdr9 hS9 ho7 hW7 p1 p2 u1 u2 hzl HW hxblk
          go_wp2_with fail
          refine hcO.mono ?_
          rintro e w10 ⟨rfl, zs2, hr2, hp2, hown10, hk10⟩
          clear hcO
          go_wp2_with fail
          refine bodyPost_ret (results_tmp2 rfl _ _ _) rfl ?_
          obtain ⟨hz3, hkw9, ht, hfr9', hS9, hout7⟩ := HZ.out
          subst ht
          have hrows := split_end hS9 hz3 hp2 hk10 hfr9'
          refine ⟨_, rfl, hk10.kept hkw9.size (fun k hk => ?_) hkw9, ?_⟩
          · rcases hfr9' k hk with q | q <;> omega
          · subst hr2
            exact own_rel (E := TConfigGroup.E) (base := w.heap.size) (by rw [List.length_map]; exact hown10) (rels_z (base := base) (fun k hk => by have hk : k < w.heap.size := hk; omega) hrows) (fun k hk => hk)
end Go.Proofs.Ythjcdlbkdobmiaa
