/- Positions with rows of their own, in worlds: what append, Sort and Delete leave. -/
import Derived.Test.YthjcdlbkdobmiaaCso
import Derived.Test.YthjcdlbkdobmiaaOw
set_option linter.unusedVariables false
set_option linter.unusedSimpArgs false
namespace Go.Proofs.Ythjcdlbkdobmiaa
open Go.RowKit Go.Shelf

theorem run_append_b {P : Program} (w : World) (base : Nat) (t ty e : TypeId) (i : TypeInfo) (z : Value) (size bytes : Nat) (ht : P.underlying t = some (.slice e)) (hi : P.info? e = some i) (hz : i.zero = some z)
    (hsize : i.size = size) (hby : i.bytes = bytes) (hzs : z.cells.size = size) (hsz : 0 < size)
    (v : Value) (n : Nat) (xs : List Value) (hown : w.ownsRow base e size v n xs)
    (a : Addr) (m c : Nat) (news : List Value) (hl : news.length = m * size) (hnews : ∀ j u, news[j]? = some u → w.cell? (a.add j) = some u) (h1 : ∀ u ∈ news, u.oneCell' = true)
    (h63 : n + m ≤ maxLen) (hbytes : (n + m) * bytes ≤ 140737488355328) (hbase : base ≤ w.heap.size) :
    ∃ v' w', (Builtin.append_ #[t, t] ty #[v, .slice (some a) m c]).run P w = .ok v' w' ∧ w'.ownsRow base e size v' (n + m) (xs ++ news) ∧ w.grownBy w' v.ownBlock ∧ ∀ b, v'.ownBlock = some b → v.ownBlock = some b ∨ w.heap.size ≤ b := by
  obtain ⟨v', w', hr, r1, r2, -⟩ := run_append_own (P := P) w base t ty e i z size bytes ht hi hz hsize hby hzs hsz v n xs hown a m c news hl hnews h1 h63 hbytes hbase
  refine ⟨v', w', hr, r1, r2, fun b hb => ?_⟩
  have hxl := hown.1
  subst hsize
  subst hby
  rcases hown.2 with ⟨rfl, rfl⟩ | ⟨g, cap, cur, rfl, hbg, hg, hnc, hcm, hcs, htake⟩
  · have hx : xs = [] := List.eq_nil_of_length_eq_zero (by simpa using hxl)
    subst hx
    obtain ⟨v2, w2, hr2, q1, -, -⟩ := run_append_own (P := P) w w.heap.size t ty e i z i.size i.bytes ht hi hz rfl rfl hzs hsz _ 0 [] (World.ownsRow_nil w w.heap.size e i.size) a m c news hl hnews h1 h63 hbytes (Nat.le_refl _)
    rw [hr] at hr2
    cases hr2
    exact .inr (q1.lt b hb).1
  · by_cases hroom : n + m ≤ cap
    · have hfit : n * i.size + news.length ≤ cur.size := by rw [hl, hcs, ← Nat.add_mul]; exact Nat.mul_le_mul_right _ hroom
      have hr2 := run_append_room (P := P) w t ty e i ht hi g n cap cur hg a m c news hl hnews h1 hroom hfit
      rw [hr] at hr2
      cases hr2
      exact .inl hb
    · have hsmall : n + m ≤ 9223372036854775807 := by simp only [maxLen] at h63; omega
      have holds : ∀ j u, xs[j]? = some u → w.cell? ((⟨g, 0, none⟩ : Addr).add j) = some u := hown.cells (g := g) rfl
      have hr2 := run_append_grow (P := P) w t ty e i z ht hi hz ⟨g, 0, none⟩ n cap xs hxl holds a m c news hl hnews (by omega) (by omega) (growslice_fits (by omega) hbytes)
      rw [hr] at hr2
      cases hr2
      refine .inr ?_
      cases hb
      exact Nat.le_refl _
/- an append to a row of the run's own, as a step of a region that draws; the new row lies where the old one lay, or is new -/
theorem step_append_b {P : Program} {ops : Array Oper} {o : Oper} {a : Act} {w : World} {K : Act → World → Prop} {Q : Exit → Act → World → Prop} {E : Prop}
    (hg : o.guard = none) (s x : Operand) (t : TypeId) (hop : o.op = Op.call { callee := Callee.builtin Builtin.append, args := #[s, x], argTypes := #[t, t] })
    (base : Nat) (e : TypeId) (i : TypeInfo) (z : Value) (size bytes : Nat) (h1 : P.underlying t = some (.slice e)) (h2 : P.info? e = some i) (h3 : i.zero = some z) (h4 : i.size = size) (h5 : i.bytes = bytes) (h6 : z.cells.size = size) (h7 : 0 < size)
    (v : Value) (k : Nat) (xs : List Value) (hs : a.eval s = v) (hown : w.ownsRow base e size v k xs) (ad : Addr) (m c : Nat) (news : List Value) (hx : a.eval x = .slice (some ad) m c) (hn : news.length = m * size)
    (hc : ∀ j u, news[j]? = some u → w.cell? (ad.add j) = some u) (h1c : ∀ u ∈ news, u.oneCell' = true) (b1 : k + m ≤ maxLen) (b2 : (k + m) * bytes ≤ 140737488355328) (b3 : base ≤ w.heap.size)
    (hK : ∀ v' w', w'.ownsRow base e size v' (k + m) (xs ++ news) → w.grownBy w' v.ownBlock → (∀ b, v'.ownBlock = some b → v.ownBlock = some b ∨ w.heap.size ≤ b) → w.drawn ≤ w'.drawn → K (a.put o.dst v') w') :
    if Region.wanted o (yielded ops a.tmps) = true then Oper.wp P o a w K Q else E := by
  have hw : Region.wanted o (yielded ops a.tmps) = true := by simp [Region.wanted, hg]
  rw [if_pos hw]
  obtain ⟨v', w', hrun, r1, r2, r3⟩ := run_append_b (P := P) w base t o.type e i z size bytes h1 h2 h3 h4 h5 h6 h7 v k xs hown ad m c news hn hc h1c b1 b2 b3
  have hd := run_drawn P _ _ _ _ hrun
  unfold Oper.wp
  simp [execOp, hop, resolve, invoke, builtin, hs, hx, hrun, Result.andThen]
  exact hK v' w' r1 r2 r3 hd

theorem row_moved {W W' : World} {base : Nat} {v : Value} {s : List ByteArray} (h : rowT W base v s) (hk : ∀ b, v.ownBlock = some b → W'.heap[b]? = W.heap[b]?) : rowT W' base v s := by
  refine ⟨h.1, ?_⟩
  rcases h.2 with q | ⟨g, cap, cur, rfl, q2, q3, q4⟩
  · exact .inl q
  · exact .inr ⟨g, cap, cur, rfl, q2, (hk g rfl).trans q3, q4⟩
theorem outer_moved {W W' : World} {base sz n : Nat} {T : TypeId} {v : Value} {xs : List Value} (h : W.ownsRow base T sz v n xs) (hk : ∀ b, v.ownBlock = some b → W'.heap[b]? = W.heap[b]?) : W'.ownsRow base T sz v n xs := by
  refine ⟨h.1, ?_⟩
  rcases h.2 with q | ⟨g, cap, cur, rfl, q2, q3, q4⟩
  · exact .inl q
  · exact .inr ⟨g, cap, cur, rfl, q2, (hk g rfl).trans q3, q4⟩
/- positions, each with a row of its own -/
structure Cpx (W : World) (base gb : Nat) (l : List TConfigGroup) (ps : List (ByteArray × Value)) : Prop where
  len : ps.length = l.length
  row : ∀ (i : Nat) (x : TConfigGroup) q, l[i]? = some x → ps[i]? = some q → q.1 = x.Position ∧ rowT W base q.2 x.Sectors
  sep : ∀ (i k : Nat) p q b, ps[i]? = some p → ps[k]? = some q → p.2.ownBlock = some b → q.2.ownBlock = some b → i = k
  out : gb < base
theorem some_ltA {α : Type} {l : List α} {i : Nat} {x : α} (h : l[i]? = some x) : i < l.length := (List.getElem?_eq_some_iff.1 h).1
theorem Cps.cpx {w0 W : World} {base gb n : Nat} {l : List TConfigGroup} {ps : List (ByteArray × Value)} (h : Cps w0 W base gb n l ps) (hn : n = l.length) : Cpx W base gb l ps := by
  subst hn
  refine ⟨h.len, fun i x q hx hq => ⟨h.nam i x q hx hq, h.new i x q hx hq (some_ltA hx)⟩, fun i k p q b hp hq => h.sep i k p q b ?_ ?_ hp hq, h.out⟩
  · have := some_ltA hp; have := h.len; omega
  · have := some_ltA hq; have := h.len; omega
theorem Cpx.blk {W : World} {base gb i : Nat} {l : List TConfigGroup} {ps : List (ByteArray × Value)} (h : Cpx W base gb l ps) {q : ByteArray × Value} (hq : ps[i]? = some q) : ∀ b, q.2.ownBlock = some b → base ≤ b ∧ b < W.heap.size := by
  have hi : i < l.length := by have := some_ltA hq; have := h.len; omega
  exact (h.row i l[i] q (List.getElem?_eq_getElem hi) hq).2.lt
theorem Cpx.moved {W W' : World} {base gb : Nat} {l : List TConfigGroup} {ps : List (ByteArray × Value)} (h : Cpx W base gb l ps) (hk : ∀ (i : Nat) (q : ByteArray × Value) b, ps[i]? = some q → q.2.ownBlock = some b → W'.heap[b]? = W.heap[b]?) : Cpx W' base gb l ps :=
  ⟨h.len, fun i x q hx hq => ⟨(h.row i x q hx hq).1, row_moved (h.row i x q hx hq).2 fun b hb => hk i q b hq hb⟩, h.sep, h.out⟩
theorem Cpx.put {W W' : World} {base gb I : Nat} {l : List TConfigGroup} {ps : List (ByteArray × Value)} (h : Cpx W base gb l ps) {x : TConfigGroup} {q : ByteArray × Value} {v : Value} {s : List ByteArray} (hx : l[I]? = some x) (hq : ps[I]? = some q)
    (hoth : ∀ k r b, k ≠ I → ps[k]? = some r → r.2.ownBlock = some b → W'.heap[b]? = W.heap[b]? ∧ v.ownBlock ≠ some b) (hv : rowT W' base v s) : Cpx W' base gb (l.set I ⟨x.Position, s⟩) (ps.set I (q.1, v)) := by
  have hjl := some_ltA hx
  have hjp := some_ltA hq
  have at_ne : ∀ {i : Nat} {r : ByteArray × Value}, i ≠ I → (ps.set I (q.1, v))[i]? = some r → ps[i]? = some r := fun hi hr => by rwa [List.getElem?_set_ne (Ne.symm hi)] at hr
  have at_eq : ∀ {r : ByteArray × Value}, (ps.set I (q.1, v))[I]? = some r → r = (q.1, v) := fun hr => by
    rw [List.getElem?_set_self hjp] at hr; cases hr; rfl
  refine ⟨by rw [List.length_set, List.length_set]; exact h.len, fun i y r hy hr => ?_, fun i k p r b hp hr hb1 hb2 => ?_, h.out⟩
  · by_cases e : i = I
    · subst e
      rw [at_eq hr]
      rw [List.getElem?_set_self hjl] at hy
      cases hy
      exact ⟨(h.row i x q hx hq).1, hv⟩
    · rw [List.getElem?_set_ne (Ne.symm e)] at hy
      have hr' := at_ne e hr
      exact ⟨(h.row i y r hy hr').1, row_moved (h.row i y r hy hr').2 fun b hb => (hoth i r b e hr' hb).1⟩
  · by_cases e : i = I <;> by_cases e' : k = I
    · omega
    · subst e
      rw [at_eq hp] at hb1
      exact absurd hb1 (hoth k r b e' (at_ne e' hr) hb2).2
    · subst e'
      rw [at_eq hr] at hb2
      exact absurd hb2 (hoth i p b e (at_ne e hp) hb1).2
    · exact h.sep i k p r b (at_ne e hp) (at_ne e' hr) hb1 hb2
def cellsZ (zs : List (TConfigGroup × Value)) : List Value := zs.flatMap fun z => [.string z.1.Position, z.2]
theorem zip_of {R : TConfigGroup → Value → Prop} : ∀ {l : List TConfigGroup} {ps : List (ByteArray × Value)}, ps.length = l.length → (∀ (i : Nat) (x : TConfigGroup) q, l[i]? = some x → ps[i]? = some q → q.1 = x.Position ∧ R x q.2) → ∃ zs : List (TConfigGroup × Value), zs.map (·.1) = l ∧ cellsZ zs = cellsG ps ∧ ∀ z ∈ zs, R z.1 z.2
  | [], [], _, _ => ⟨[], rfl, rfl, by simp⟩
  | [], _ :: _, h, _ => by simp at h
  | _ :: _, [], h, _ => by simp at h
  | x :: l, q :: ps, h, hp => by
    obtain ⟨zs, h1, h2, h3⟩ := zip_of (R := R) (l := l) (ps := ps) (by simpa using h) (fun i y r hy hr => hp (i + 1) y r hy hr)
    obtain ⟨k1, k2⟩ := hp 0 x q rfl rfl
    refine ⟨(x, q.2) :: zs, by rw [List.map_cons, h1], ?_, fun z hz => ?_⟩
    · unfold cellsZ cellsG at *
      rw [List.flatMap_cons, List.flatMap_cons, h2, k1]
    · rcases List.mem_cons.1 hz with rfl | hz
      · exact k2
      · exact h3 z hz
theorem Cpx.zip {W : World} {base gb : Nat} {l : List TConfigGroup} {ps : List (ByteArray × Value)} (h : Cpx W base gb l ps) : ∃ zs : List (TConfigGroup × Value), zs.map (·.1) = l ∧ cellsZ zs = cellsG ps ∧ ∀ z ∈ zs, rowT W base z.2 z.1.Sectors :=
  zip_of (R := fun x v => rowT W base v x.Sectors) h.len h.row
theorem rels_z {W : World} {base : Nat} {no : Nat → Prop} (hn : ∀ k, no k → k < base) : ∀ {zs : List (TConfigGroup × Value)}, (∀ z ∈ zs, rowT W base z.2 z.1.Sectors) → Rels (cxA no W) (encs TConfigGroup.E (zs.map (·.1))) (cellsZ zs)
  | [], _ => .nil
  | z :: zs, h => by
    rw [List.map_cons, encs_cons]
    have := rels_z (W := W) hn (zs := zs) fun z hz => h z (by simp [hz])
    exact .cons (.sc _ rfl) (.cons (own_rel (E := strE) (h z (by simp)) (rels_txs _ _) hn) this)
def rawZ (z : TConfigGroup × Value) : Raw TConfigGroup.E := ⟨(z.1, [.string z.1.Position, z.2]), rfl⟩
theorem rawL_z : ∀ zs : List (TConfigGroup × Value), rawL (zs.map rawZ) = cellsZ zs
  | [] => rfl
  | z :: zs => by
    have := rawL_z zs
    unfold rawL cellsZ at *
    rw [List.map_cons, List.flatMap_cons, List.flatMap_cons, this]
    rfl
/- what is left of a row after Delete -/
theorem del_z {w : World} {base : Nat} {v : Value} {zs : List (TConfigGroup × Value)} {K : Nat} (hK : K < zs.length) (hn : zs.length ≤ 1000) (hown : w.ownsRow base 40 2 v zs.length (cellsZ zs)) (hsc : ∀ z ∈ zs, ∃ a n c, z.2 = .slice a n c) :
    Calls Try.prog 21 #[v, .int .i64 (K : Int), .int .i64 (K + 1 : Int)] w fun e w' => ∃ b cap arr rest, e = .returned (.slice (some ⟨b, 0, none⟩) (zs.eraseIdx K).length cap) ∧ w'.heap[b]? = some (.cells arr 40) ∧ arr.toList = cellsZ (zs.eraseIdx K) ++ rest ∧ (zs.eraseIdx K).length ≤ cap ∧ cap ≤ maxLen ∧ (v.ownBlock = some b ∨ w.heap.size ≤ b) ∧ Kno (fun k => v.ownBlock = some k) w w' := by
  have hE : zs.eraseIdx K = zs.take K ++ zs.drop (K + 1) := List.eraseIdx_eq_take_drop_succ zs K
  have hd : delO 40 (zs.map rawZ) (K : Int) (K + 1 : Int) = some ((zs.eraseIdx K).map rawZ) := by
    unfold delO
    rw [List.length_map, if_pos (by omega), hE]
    simp [List.map_take, List.map_drop]
  have hL : (zs.map rawZ) ≠ [] := by
    intro q
    have := List.map_eq_nil_iff.1 q
    subst this
    simp at hK
  have := del_world (P := Try.prog) (gl := KK.gl) (E := TConfigGroup.E) (f := 21) (ty := 40) (by_ := 40) (L := zs.map rawZ) (Y := (zs.eraseIdx K).map rawZ) (i := (K : Int)) (j := (K + 1 : Int)) (fun c g cs h => by cases h)
    (fun hb => del21o hb hd) hL (by
      intro u hu
      rw [rawL_z] at hu
      obtain ⟨z, hz, hu⟩ := List.mem_flatMap.1 hu
      obtain ⟨a, n, c, hz2⟩ := hsc z hz
      rcases List.mem_cons.1 hu with rfl | hu
      · rfl
      · rw [List.mem_singleton.1 hu, hz2]; rfl) (w := w) (base := base) (v := v) (by rw [rawL_z, List.length_map]; exact hown)
  refine this.mono ?_
  rintro e w' ⟨b, cap, arr, rest, h1, h2, h3, h4, h5, h6, h7⟩
  rw [List.length_map] at h1 h4
  rw [rawL_z] at h3
  exact ⟨b, cap, arr, rest, h1, h2, h3, h4, h5, h6, h7⟩
/- a row of positions as a list -/
theorem z_rel {W : World} {base b cap : Nat} {no : Nat → Prop} (hn : ∀ k, no k → k < base) {zs : List (TConfigGroup × Value)} (hz : ∀ z ∈ zs, rowT W base z.2 z.1.Sectors) {arr : Array Value} {rest : List Value} (hb : W.heap[b]? = some (.cells arr 40)) (ha : arr.toList = cellsZ zs ++ rest) (hc : zs.length ≤ cap) (hm : cap ≤ maxLen) (hnb : ¬ no b) :
    VRel (cxA no W) (lstA TConfigGroup.E (zs.map (·.1))) (.slice (some ⟨b, 0, none⟩) zs.length cap) := by
  have hr := rels_z hn hz
  have := VRel.lst (c := cxA no W) (b := b) (o := 0) (vs := cellsZ zs) (n := (zs.map (·.1)).length) (cap := cap) (ex := false) ⟨heap_lt hb, cxA_own _, hnb⟩ hr (fun k u hu => ?_) (by rw [List.length_map]; exact hc) (fun h => by cases h) hm
  · rw [List.length_map] at this
    unfold lstA
    rw [List.length_map]
    exact this
  · have : arr.toList[k]? = some u := by
      rw [ha, List.getElem?_append_left (some_ltA hu)]; exact hu
    show W.cell? ⟨b, 0 + k, none⟩ = some u
    rw [Nat.zero_add]
    simp only [World.cell?, hb]
    rw [Array.getElem?_toList] at this
    simpa using this
end Go.Proofs.Ythjcdlbkdobmiaa
