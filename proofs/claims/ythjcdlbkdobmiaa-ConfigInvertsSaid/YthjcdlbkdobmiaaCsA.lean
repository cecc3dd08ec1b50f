/- Contains, DeleteFunc and SortFunc at rows of the run's own, in worlds. -/
import Derived.Test.YthjcdlbkdobmiaaCsL
import Derived.Test.YthjcdlbkdobmiaaCfH
import Derived.Test.YthjcdlbkdobmiaaCa
import Derived.Test.YthjcdlbkdobmiaaX1S
set_option linter.unusedVariables false
set_option linter.unusedSimpArgs false
namespace Go.Proofs.Ythjcdlbkdobmiaa
open Go.RowKit Go.Shelf Go.Sort

theorem bytes_inj {a b : ByteArray} (h : a.toList = b.toList) : a = b := by
  rw [ByteArray.toList_eq, ByteArray.toList_eq] at h
  exact ByteArray.ext (Array.toList_inj.1 h)
theorem hasL_iff {L : List ByteArray} {s : ByteArray} : hasL L s = true ↔ s ∈ L := by
  unfold hasL
  rw [List.any_eq_true]
  constructor
  · rintro ⟨x, hx, e⟩
    rw [bytes_inj (beq_iff_eq.1 e)]; exact hx
  · exact fun h => ⟨s, h, by simp⟩
theorem hasL_con (L : List ByteArray) (s : ByteArray) : Lib.containsS L s = hasL L s := by
  rw [Bool.eq_iff_iff, hasL_iff, Lib.containsS_iff]
theorem con_calls {no : Nat → Prop} {w : World} {L : List ByteArray} {v : Value} (h : VRel (cxA no w) (lstA strE L) v) (s : ByteArray) : Calls Try.prog 23 #[v, .string s] w fun e w' => e = .returned (.bool (hasL L s)) ∧ w' = w := by
  by_cases hL : L = []
  · subst hL
    obtain ⟨a, cap, rfl⟩ := slice_lenE h
    exact Any.slices_Contains_string_empty layCon a cap s w
  obtain ⟨b, off, cap, rfl, hb, -, hc⟩ := lst_open h hL
  have hle : L.length ≤ 9223372036854775807 := by
    unfold lstA at h
    generalize encs strE L = es at h
    generalize L.length = q at *
    cases h with
    | lst0 a cap ex he hm hn => omega
    | lst hb h hc hn he hm => simp only [maxLen] at hm; omega
  have := Any.slices_Contains_string layCon b off L.length cap L s w (Nat.le_refl _) hle (fun j hj => by
    have := hc j L[j] (List.getElem?_eq_getElem hj) 0 (.string L[j]) (by decide) rfl
    rw [show off + (j * strE.size + 0) = off + j by show off + (j * 1 + 0) = _; omega] at this
    rw [this]
    simp [List.getD, hj])
  rw [List.take_length, hasL_con] at this
  exact this
theorem clo_gives {no : Nat → Prop} {W : World} {names : List ByteArray} {nv : Value} {bx : Nat} (hb : Bx W bx 23 nv) (h : VRel (cxA no W) (lstA strE names) nv) (s : ByteArray) : FnGives Try.prog 25 #[.pointer (some ⟨bx, 0, none⟩)] #[.string s] (.bool (hasL names s)) W := by
  show Calls Try.prog 25 #[.string s, .pointer (some ⟨bx, 0, none⟩)] W _
  have hc := hb.cell
  have hcc := con_calls h s
  clear h hb
  go_enter Try.func25, Try.ntmps25
  go_wp2_with fail
  refine hcc.mono ?_
  rintro e w' ⟨rfl, rfl⟩
  clear hcc
  go_wp2_with fail
  go_ret
  exact ⟨rfl, 0, rfl⟩
theorem txs_len (s : List ByteArray) : (txs s).length = s.length := by simp [txs]
/- the row's block after a function of the library has rewritten it -/
theorem row_afterE {α : Type} [Inhabited α] {E : En α} (hE : OkE E) {w : World} {g ty : Nat} {cur : Array Value} {l : List α} (q3 : w.heap[g]? = some (.cells cur ty (0, 0))) (hle : l.length * E.size ≤ cur.size) (q7 : cur.toList.take (l.length * E.size) = (encs E l).map scV) (n : Nat) (d : Array α) (hsz : d.size = l.length) (os : Array Obj) :
    ∃ arr', (sortWorldK (encW E) E.size w g 0 n d os).heap[g]? = some (.cells arr' ty (0, 0)) ∧ arr'.size = cur.size ∧ arr'.toList.take (l.length * E.size) = (encs E d.toList).map scV ∧ Kno (fun k => k = g) w (sortWorldK (encW E) E.size w g 0 n d os) := by
  have hlt := heap_lt q3
  have hsp : cur.toList = (encs E l).map scV ++ cur.toList.drop (l.length * E.size) := by rw [← q7, List.take_append_drop]
  have hf := flat_rel hE (cxA (fun _ => False) w) l.toArray
  have e0 : (flatK (encW E) E.size l.toArray).toList = (encs E l).map scV := rels_sc (encs_sc hE.sc _) hf
  have hrow : HoldsK (encW E) E.size w g 0 l.toArray := holds_row hE q3 ⟨(encs E l).map scV, hsp, cxA (fun _ => False) w, by rw [← e0]; exact hf⟩
  have hbut := sort_but (encW E) E.size w g 0 n d os
  obtain ⟨arr', b1, b2⟩ := hbut.blk cur ty q3
  have hold2 := holdsK_sortWorldK_c (encW E) E.size w g 0 l.toArray d n os hrow hlt (by rw [hsz]; simp)
  generalize sortWorldK (encW E) E.size w g 0 n d os = W at *
  have hfl : (flatK (encW E) E.size d).size = l.length * E.size := by rw [size_flatK, hsz]
  have hflt : (flatK (encW E) E.size d).toList = (encs E d.toList).map scV := rels_sc (encs_sc hE.sc _) (flat_rel hE (cxA (fun _ => False) w) d)
  refine ⟨arr', b1, b2, ?_, ⟨hbut.os, hbut.tape, hbut.output, hbut.size, fun b hb hno => hbut.oth b hb (fun e => hno e), dr_le hbut.drawn⟩⟩
  rw [← hflt]
  refine List.ext_getElem? fun t => ?_
  rw [List.getElem?_take]
  split
  · rename_i ht
    have := (hold2 t (by rw [hfl]; omega)).1
    unfold World.cell? at this
    simp only [b1, Option.isSome_none, Bool.false_eq_true, if_false, Nat.zero_add, id] at this
    rw [Array.getElem?_toList, this, Array.getElem?_toList]
    have hs2 : t < (flatK (encW E) E.size d).size := by omega
    rw [Array.getElem?_eq_getElem hs2, getElem!_pos _ t hs2]
  · rename_i ht
    rw [Array.getElem?_toList, Array.getElem?_eq_none (by omega)]
theorem encs_txs : ∀ s : List ByteArray, (encs strE s).map scV = txs s
  | [] => rfl
  | a :: s => by rw [encs_cons, List.map_append, encs_txs s]; rfl
theorem row_after {w : World} {g : Nat} {cur : Array Value} {s : List ByteArray} (q3 : w.heap[g]? = some (.cells cur 9 (0, 0))) (hle : s.length ≤ cur.size) (q7 : cur.toList.take (s.length * 1) = txs s) (n : Nat) (d : Array ByteArray) (hsz : d.size = s.length) (os : Array Obj) :
    ∃ arr', (sortWorldK (encW strE) strE.size w g 0 n d os).heap[g]? = some (.cells arr' 9 (0, 0)) ∧ arr'.size = cur.size ∧ arr'.toList.take s.length = txs d.toList ∧ Kno (fun k => k = g) w (sortWorldK (encW strE) strE.size w g 0 n d os) := by
  obtain ⟨arr', h1, h2, h3, h4⟩ := row_afterE strE_ok q3 (by show s.length * 1 ≤ _; omega) (by rw [encs_txs]; exact q7) n d hsz os
  rw [encs_txs] at h3
  have h3 : arr'.toList.take (s.length * 1) = _ := h3
  rw [Nat.mul_one] at h3
  exact ⟨arr', h1, h2, h3, h4⟩
theorem putRow_txt (w : World) (blk off : Nat) (d : Array ByteArray) : putRow Value.string w blk off d = putRowK (encW strE) strE.size w blk off d := by
  unfold putRowK putRow
  congr 1
  funext c
  unfold putCells
  have hs : (flatK (encW strE) strE.size d).size = d.size := by rw [size_flatK]; show d.size * 1 = _; omega
  congr 1
  funext k x
  rw [hs]
  by_cases h : off ≤ k ∧ k < off + d.size
  · rw [if_pos h, if_pos h, flat_str d _ (by omega)]
    rfl
  · rw [if_neg h, if_neg h]
theorem add_at (g j : Nat) : (⟨g, 0, none⟩ : Addr).add j = ⟨g, j, none⟩ := by unfold Addr.add; split <;> simp_all
theorem delf_row {no : Nat → Prop} {w : World} {base bx : Nat} {v nv : Value} {s names : List ByteArray} (h : rowT w base v s) (hne : s ≠ []) (hn : s.length ≤ 1000) (hb : Bx w bx 23 nv) (hr : VRel (cxA no w) (lstA strE names) nv) (h1 : v.ownBlock ≠ some bx) (h2 : ∀ k, v.ownBlock = some k → no k) :
    Calls Try.prog 24 #[v, .func (.func 25) #[] #[.pointer (some ⟨bx, 0, none⟩)]] w fun e w' => ∃ v', e = .returned v' ∧ rowT w' base v' (s.filter fun x => !hasL names x) ∧ v'.ownBlock = v.ownBlock ∧ Kno (fun k => v.ownBlock = some k) w w' := by
  rcases h.2 with ⟨q1, q2⟩ | ⟨g, cap, cur, rfl, q2, q3, q4, q5, q6, q7⟩
  · exact absurd (List.eq_nil_of_length_eq_zero q2) hne
  have hlt := heap_lt q3
  have hgb : g ≠ bx := fun e => h1 (by rw [e]; rfl)
  have hno : no g := h2 g rfl
  have hsp : cur.toList = txs s ++ cur.toList.drop (s.length * 1) := by rw [← q7, List.take_append_drop]
  have hH : Holds Value.string w g 0 s.toArray := fun j hj => by
    have hj' : j < s.length := by simpa using hj
    have hu : (txs s)[j]? = some (.string s[j]) := by simp [txs, hj']
    refine ⟨?_, ?_⟩
    · have := h.cells (g := g) rfl j _ hu
      rw [add_at] at this
      rw [Nat.zero_add, this, getElem!_pos _ j hj]
      simp
    · rw [Nat.zero_add]; exact h.frozenAt j
  have keep : ∀ W : World, (∀ k, k < w.heap.size → k ≠ g → W.heap[k]? = w.heap[k]?) → w.heap.size ≤ W.heap.size → Bx W bx 23 nv ∧ VRel (cxA no W) (lstA strE names) nv := fun W hk hs => by
    refine ⟨(hk bx (heap_lt hb) (fun e => hgb e.symm)).trans hb, ?_⟩
    refine hr.moved (c := cxA no w) (c' := cxA no W) (fun b ⟨r1, r2, r3⟩ => ⟨Nat.lt_of_lt_of_le r1 hs, cxA_own b, r3⟩) (fun b o vs ⟨r1, r2, r3⟩ hc j u hj => ?_) (lstA_clean _ _)
    rw [← hc j u hj]
    simp only [World.cell?]
    rw [show (cxA no W).w = W from rfl, hk b r1 (fun e => r3 (by rw [e]; exact hno))]
    rfl
  have hcall := AnyE.slices_DeleteFunc layDel Value.string (fun _ => rfl) (hasL names) 25 #[.pointer (some ⟨bx, 0, none⟩)] (enters_of_plain ⟨Try.f25, _, Try.func25, rfl, by kernel_rfl⟩) ByteArray.empty Try.zeroValue9 g 0 cap s.toArray w
    (fun W x hW => by
      obtain ⟨k1, k2⟩ := keep W (fun k hk _ => hW.block k hk) hW.size
      exact clo_gives k1 k2 x)
    (fun n os dk x hs => by
      have hk := row_after q3 (by omega) q7 n dk (by simpa using hs) os
      have e1 : sortWorld Value.string w g 0 n dk os = sortWorldK (encW strE) strE.size w g 0 n dk os := by unfold sortWorld sortWorldK; rw [putRow_txt]
      obtain ⟨arr', -, -, -, hkn⟩ := hk
      rw [e1]
      obtain ⟨k1, k2⟩ := keep _ (fun k hk hne => hkn.blk k hk hne) hkn.size
      exact clo_gives k1 k2 x)
    hH (by rw [List.size_toArray]; omega) (by rw [List.size_toArray]; exact q4)
  change Calls Try.prog 24 _ _ _ at hcall
  rw [show s.toArray.size = s.length by simp] at hcall
  refine hcall.mono ?_
  rintro e w' ⟨rfl, n, rfl⟩
  have hfl : (s.filter fun x => !hasL names x).length ≤ s.length := List.length_filter_le _ _
  generalize hF : (s.filter fun x => !hasL names x) = F at *
  obtain ⟨D, hD⟩ : ∃ D, (F ++ List.replicate (s.length - F.length) ByteArray.empty).toArray = D := ⟨_, rfl⟩
  have hDs : D.size = s.length := by rw [← hD]; simp; omega
  have hDl : D.toList = F ++ List.replicate (s.length - F.length) ByteArray.empty := by rw [← hD]
  have hk := row_after q3 (by omega) q7 n D hDs #[]
  have e1 : putRow Value.string (Sort.ahead w n) g 0 D = sortWorldK (encW strE) strE.size w g 0 n D #[] := by unfold sortWorldK; rw [putRow_txt, grow_empty]
  rw [hD, e1]
  obtain ⟨arr', k1, k2, k3, k4⟩ := hk
  refine ⟨_, rfl, ⟨by rw [txs_len]; omega, .inr ⟨g, cap, arr', rfl, q2, k1, by omega, q5, by rw [k2]; exact q6, ?_⟩⟩, rfl, k4.mono (fun k hk => by rw [hk]; rfl)⟩
  have : arr'.toList.take F.length = (arr'.toList.take s.length).take F.length := by rw [List.take_take, Nat.min_eq_left hfl]
  rw [Nat.mul_one, this, k3, hDl]
  show (List.map Value.string _).take _ = _
  rw [List.map_append, List.take_left' (by simp)]
  rfl
/- the comparison of positions -/
set_option maxHeartbeats 1000000 in
theorem ord1_calls (a b : ByteArray) (u v : Value) (hu : u.oneCell' = true) (hv : v.oneCell' = true) (W : World) : Calls Try.prog 36 #[.agg #[.string a, u], .agg #[.string b, v]] W fun e w' => e = .returned (.int .i64 (Lib.compareBytes a.data.toList b.data.toList)) ∧ Kept W w' := by
  have hC := fun w' : World => Any.strings_Compare layCmp a b w'
  have c1 : ∀ x y : Value, (((W.alloc (.cells #[.string a, u] 40)).alloc (.cells #[.string b, v] 40)).cell? ⟨W.heap.size, 0, none⟩ = some (.string a)) ∧ (((W.alloc (.cells #[.string a, u] 40)).alloc (.cells #[.string b, v] 40)).cell? ⟨W.heap.size + 1, 0, none⟩ = some (.string b)) := fun x y => by
    have h1 := World.alloc_heap_new W (.cells #[.string a, u] 40)
    have h2 := World.alloc_heap_new (W.alloc (.cells #[.string a, u] 40)) (.cells #[.string b, v] 40)
    rw [World.size_alloc] at h2
    have h3 := (Below.heap_alloc (W.alloc (.cells #[.string a, u] 40)) (.cells #[.string b, v] 40) _ (heap_lt h1)).trans h1
    exact ⟨by simp only [World.cell?, h3]; rfl, by simp only [World.cell?, h2]; rfl⟩
  obtain ⟨c1, c2⟩ := c1 u v
  have hk : Kept W ((W.alloc (.cells #[.string a, u] 40)).alloc (.cells #[.string b, v] 40)) := ((Kept.refl W).al _).al _
  go_enter Try.func36, Try.ntmps36
  go_wp2_with fail
  refine (hC _).mono ?_
  rintro e w' ⟨rfl, rfl⟩
  go_wp2_with fail
  go_ret
  exact ⟨rfl, hk⟩
def ZOk (z : TConfigGroup × Value) : Prop := ∃ a n c, z.2 = .slice a n c
instance : Inhabited { z : TConfigGroup × Value // ZOk z } := ⟨⟨(⟨ByteArray.empty, []⟩, .slice none 0 0), none, 0, 0, rfl⟩⟩
def EnB : En { z : TConfigGroup × Value // ZOk z } where
  size := 2
  enc z := [.sc (.string z.1.1.Position), .sc z.1.2]
  len _ := rfl
  pos := by decide
  cell z := rfl
  cln z := rfl
  nrm z := rfl
theorem EnB_ok : OkE EnB := by
  intro z c hc
  simp only [EnB, List.mem_cons, List.not_mem_nil, or_false] at hc
  rcases hc with rfl | rfl
  · exact ⟨_, rfl, rfl⟩
  · obtain ⟨a, n, c, h⟩ := z.2
    exact ⟨_, rfl, by rw [h]; rfl⟩
theorem encs_z : ∀ S : List { z : TConfigGroup × Value // ZOk z }, (encs EnB S).map scV = cellsZ (S.map (·.1))
  | [] => rfl
  | z :: S => by
    rw [encs_cons, List.map_append, encs_z S, List.map_cons]; rfl
def cmpZ (a b : TConfigGroup) : Option Int := some (Lib.compareBytes a.Position.data.toList b.Position.data.toList)
theorem cellsZ_len (zs : List (TConfigGroup × Value)) : (cellsZ zs).length = zs.length * 2 := by
  induction zs with
  | nil => rfl
  | cons z zs ih => unfold cellsZ at *; rw [List.flatMap_cons, List.length_append, ih, List.length_cons]; simp; omega
theorem order_row {w : World} {base : Nat} {v : Value} {zs : List (TConfigGroup × Value)} {r : List TConfigGroup} (h : w.ownsRow base 40 2 v zs.length (cellsZ zs)) (hok : ∀ z ∈ zs, ZOk z) (hne : zs ≠ []) (hn : zs.length ≤ 1000) (hs : sortO cmpZ (zs.map (·.1)) = some r) :
    Calls Try.prog 35 #[v, .func (.func 36) #[] #[]] w fun e w' => e = .returned (.tuple #[]) ∧ ∃ zs' : List (TConfigGroup × Value), zs'.map (·.1) = r ∧ zs'.Perm zs ∧ w'.ownsRow base 40 2 v zs'.length (cellsZ zs') ∧ Kno (fun k => v.ownBlock = some k) w w' := by
  rcases h.2 with ⟨q1, q2⟩ | ⟨g, cap, cur, rfl, q2, q3, q4, q5, q6, q7⟩
  · exact absurd (List.eq_nil_of_length_eq_zero q2) hne
  have hlt := heap_lt q3
  obtain ⟨S, hS⟩ : ∃ S : List { z : TConfigGroup × Value // ZOk z }, S.map (·.1) = zs := ⟨zs.attachWith ZOk hok, List.attachWith_map_subtype_val hok⟩
  have hSl : S.length = zs.length := by rw [← hS, List.length_map]
  obtain ⟨p1, p2, ho⟩ := sortO_facts hs
  let β := { s : { z : TConfigGroup × Value // ZOk z } // s ∈ S }
  have inh : Inhabited β := by
    cases S with
    | nil => exact absurd hS.symm hne
    | cons x l => exact ⟨⟨x, by simp⟩⟩
  let cf : β → β → Int := fun x y => (cmpZ x.1.1.1 y.1.1.1).getD 0
  have mem : ∀ x : β, x.1.1.1 ∈ zs.map (·.1) := fun x => List.mem_map.2 ⟨x.1.1, by rw [← hS]; exact List.mem_map.2 ⟨x.1, x.2, rfl⟩, rfl⟩
  have hlt2 : ∀ x y : β, ltOf cf x y = ltO cmpZ x.1.1.1 y.1.1.1 := fun x y => rfl
  have hO : SWO (ltOf cf) := ⟨fun x => by rw [hlt2]; exact ho.irr (mem x), fun x y z a b => by rw [hlt2] at *; exact ho.tra _ (mem x) _ (mem y) _ (mem z) a b, fun x y z a b => by rw [hlt2] at *; exact ho.nle (mem x) (mem y) (mem z) a b⟩
  have hat : (S.attach.map (·.1)) = S := List.attach_map_subtype_val S
  have hla : S.attach.length = S.length := List.length_attach
  have hEok : OkE (SubE EnB (· ∈ S)) := fun x c hc => EnB_ok x.1 c hc
  have he : (encs (SubE EnB (· ∈ S)) S.attach).map scV = cellsZ zs := by rw [encs_sub, hat, encs_z, hS]
  have q7' : cur.toList.take (S.attach.length * (SubE EnB (· ∈ S)).size) = (encs (SubE EnB (· ∈ S)) S.attach).map scV := by
    rw [he, hla, hSl]; exact q7
  have hle' : S.attach.length * (SubE EnB (· ∈ S)).size ≤ cur.size := by
    rw [hla, hSl, q6]; exact Nat.mul_le_mul_right 2 q4
  have hrow : HoldsK (encW (SubE EnB (· ∈ S))) (SubE EnB (· ∈ S)).size w g 0 S.attach.toArray := by
    have hf := flat_rel hEok (cxA (fun _ => False) w) S.attach.toArray
    have e0 : (flatK (encW (SubE EnB (· ∈ S))) (SubE EnB (· ∈ S)).size S.attach.toArray).toList = (encs (SubE EnB (· ∈ S)) S.attach).map scV := rels_sc (encs_sc hEok.sc _) hf
    exact holds_row hEok q3 ⟨(encs (SubE EnB (· ∈ S)) S.attach).map scV, by rw [← q7', List.take_append_drop], cxA (fun _ => False) w, by rw [← e0]; exact hf⟩
  have hlay : CmpLays Try.prog 36 #[] (encW (SubE EnB (· ∈ S))) (SubE EnB (· ∈ S)).size cf g 0 S.attach.toArray.size w := by
    intro m os dk hsz x y
    obtain ⟨xa, xn, xc, hx⟩ := x.1.2
    obtain ⟨ya, yn, yc, hy⟩ := y.1.2
    refine (ord1_calls x.1.1.1.Position y.1.1.1.Position x.1.1.2 y.1.1.2 (by rw [hx]; rfl) (by rw [hy]; rfl) (sortWorldK (encW (SubE EnB (· ∈ S))) (SubE EnB (· ∈ S)).size w g 0 m dk os)).mono ?_
    rintro e w' ⟨rfl, hk⟩
    exact ⟨rfl, world_grow hk.os hk.tape hk.output hk.size (fun b hb => hk.blk b hb) (dr_real rfl hk.drawn)⟩
  have hcall := sortsGrp β (encW (SubE EnB (· ∈ S))) (encW_len _) (oneCell_encW hEok) cf hO 36 #[] g 0 cap S.attach.toArray w (enters_of_plain ⟨Try.f36, _, Try.func36, rfl, by kernel_rfl⟩) hlay hrow hlt (by rw [List.size_toArray, hla, hSl]; omega)
  rw [List.size_toArray, hla, hSl] at hcall
  refine hcall.mono ?_
  rintro e w' ⟨rfl, n, os, rfl⟩
  obtain ⟨s1, s2, s3⟩ := sortL_facts hO S.attach
  have hsz0 : S.attach.toArray.size = zs.length := by rw [List.size_toArray, hla, hSl]
  unfold sortL at s1 s2 s3
  rw [hsz0] at s1 s2 s3
  generalize hd : pdq (ltOf cf) S.attach.toArray 0 zs.length (Lib.bitLen zs.length) true true = d at *
  have hdl : d.toList.length = S.attach.length := s1
  obtain ⟨arr', k1, k2, k3, k4⟩ := row_afterE hEok q3 hle' q7' n d (by rw [← Array.length_toList]; exact hdl) os
  have hZ : (encs (SubE EnB (· ∈ S)) d.toList).map scV = cellsZ ((d.toList.map (·.1)).map (·.1)) := by rw [encs_sub, encs_z]
  have hzl : ((d.toList.map (·.1)).map (·.1)).length = zs.length := by rw [List.length_map, List.length_map, hdl, hla, hSl]
  have pz : ((d.toList.map (·.1)).map (·.1)).Perm zs := by
    have := (s2.map (·.1)).map (·.1)
    rw [hat, hS] at this
    exact this
  refine ⟨rfl, (d.toList.map (·.1)).map (·.1), ?_, pz, ⟨by rw [cellsZ_len], .inr ⟨g, cap, arr', by rw [hzl], q2, k1, by omega, q5, by rw [k2]; exact q6, ?_⟩⟩, k4.mono (fun k hk => by rw [hk]; rfl)⟩
  · refine sorted_unique (R := fun a b => ltO cmpZ b a = false) (fun x hx y hy a b => ?_) ((pz.map _).trans p1.symm) ?_ p2
    · have mx : x ∈ zs.map (·.1) := (pz.map _).mem_iff.1 hx
      have my : y ∈ zs.map (·.1) := (pz.map _).mem_iff.1 hy
      rcases ho.tot x mx y my with k | k | k
      · rw [k] at b; cases b
      · rw [k] at a; cases a
      · exact k
    · rw [List.pairwise_map, List.pairwise_map, List.pairwise_map]
      exact s3
  · rw [hzl, ← hZ, ← k3, hla, hSl]
    rfl
end Go.Proofs.Ythjcdlbkdobmiaa
