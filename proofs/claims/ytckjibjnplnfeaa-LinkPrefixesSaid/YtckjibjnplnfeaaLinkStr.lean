/- Functions of package slices at strings. -/
import Derived.Test.YtckjibjnplnfeaaGen
import Derived.Deep.AppendLies
set_option linter.unusedVariables false
set_option linter.unusedSimpArgs false
namespace Go.Proofs.Ytckjibjnplnfeaa
open Go.RowKit
attribute [local go_sem ↓] Go.wp_at_zero Go.wp_at_succ

set_option maxRecDepth 100000 in
set_option maxHeartbeats 1000000 in
theorem ixf_strlen (a : Option Addr) (c : Nat) (l : List ByteArray) (p : ByteArray → Bool) (w : World) (hs : strE.Slc w a c l)
    (hcall : ∀ i, i < l.length → ∀ W, Below w.heap.size w W → Calls Try.prog 26 #[.string (el l i)] W fun e w' => e = .returned (.bool (p (el l i))) ∧ Below W.heap.size W w') :
    Calls Try.prog 28 #[.slice a l.length c, .func (.func 26) #[] #[]] w fun e w' => e = .returned (.int .i64 (idxP p l)) ∧ Below w.heap.size w w' := by
  have hm := hs.max
  have hR := hs.row
  clear hs
  unfold maxLen at hm
  generalize hr : idxP p l = r
  have HR := Lib.hid hr; clear hr
  have HRow := Lib.hid hR; clear hR
  have HCall := Lib.hid hcall; clear hcall
  generalize hn : l.length = n at hm ⊢
  have HN := Lib.hid hn; clear hn
  go_enter Try.func28, Try.ntmps28
  go_wp2_with fail
  go_loopw [8] (fun i wr => ∃ k : Nat, k ≤ n ∧ i = .int .i64 k ∧ Hid (∀ j, j < k → p (el l j) = false) ∧ Below w.heap.size w wr) (fun i _ => n - (intOf i).toNat)
  case atStart => exact ⟨0, by omega, rfl, Lib.hid (fun j hj => absurd hj (by omega)), by go_grown⟩
  case round =>
    obtain ⟨k, hk, rfl, HS, hB⟩ := hrel
    have hz := hB.size
    by_cases hlt : k < n
    · obtain ⟨b, off, rfl, hbl, e1⟩ := strE_cell (HRow.out.below hB (Nat.le_refl _)) k (by rw [HN.out]; exact hlt)
      have hcc := HCall.out k (by rw [HN.out]; exact hlt) wr hB
      cases hp : p (el l k) with
      | true =>
        rw [hp] at hcc
        have HCC := Lib.hid hcc; clear hcc
        have HV := Lib.hid (firstIx_at (p := fun i => p (el l i)) HS.out hp (by rw [HN.out]; exact hlt : k < l.length)); clear hp
        go_wp2_with fail
        refine HCC.out.mono ?_
        rintro e w1 ⟨rfl, hb⟩
        have hB1 : Below w.heap.size w w1 := hB.trans (hb.mono hz)
        clear hb
        go_wp2_with fail
        go_returns
        exact ⟨ret_int (by rw [← HR.out, idxP, HV.out]), hB1⟩
      | false =>
        rw [hp] at hcc
        have HCC := Lib.hid hcc; clear hcc
        have HS2 : Hid (∀ j, j < k + 1 → p (el l j) = false) := Lib.hid (fun j hj => by
          rcases Nat.lt_or_ge j k with h | h
          · exact HS.out j h
          · obtain rfl : j = k := by omega
            exact hp)
        clear hp
        go_wp2_with fail
        refine HCC.out.mono ?_
        rintro e w1 ⟨rfl, hb⟩
        have hB1 : Below w.heap.size w w1 := hB.trans (hb.mono hz)
        clear hb
        go_wp2_with fail
        go_roundw
        case rel => exact ⟨k + 1, by omega, by go_num, HS2, hB1⟩
        case measure => simp [intOf]; omega
    · have HV := Lib.hid (firstIx_none (p := fun i => p (el l i)) (n := l.length) (fun j hj => HS.out j (by rw [HN.out] at hj; omega)))
      go_wp2_with fail
      go_returns
      exact ⟨ret_int (by rw [← HR.out, idxP, HV.out]), hB⟩

set_option maxRecDepth 100000 in
set_option maxHeartbeats 400000 in
theorem cf_strlen (a : Option Addr) (c : Nat) (l : List ByteArray) (p : ByteArray → Bool) (w : World) (hs : strE.Slc w a c l)
    (hcall : ∀ i, i < l.length → ∀ W, Below w.heap.size w W → Calls Try.prog 26 #[.string (el l i)] W fun e w' => e = .returned (.bool (p (el l i))) ∧ Below W.heap.size W w') :
    Calls Try.prog 25 #[.slice a l.length c, .func (.func 26) #[] #[]] w fun e w' => e = .returned (.bool (l.any p)) ∧ Below w.heap.size w w' := by
  rw [← idxP_any]
  have HX := Lib.hid (ixf_strlen a c l  p w hs hcall); clear hs hcall
  go_enter Try.func25, Try.ntmps25
  go_wp2_with fail
  refine HX.out.mono ?_
  rintro e w1 ⟨rfl, hb⟩
  go_wp2_with fail
  go_returns
  exact ⟨rfl, hb⟩

set_option maxRecDepth 100000 in
set_option maxHeartbeats 1000000 in
theorem equal_strs (a1 : Option Addr) (c1 : Nat) (l : List ByteArray) (a2 : Option Addr) (c2 : Nat) (m : List ByteArray) (w : World) (hs1 : strE.Slc w a1 c1 l) (hs2 : strE.Slc w a2 c2 m) :
    Calls Try.prog 10 #[.slice a1 l.length c1, .slice a2 m.length c2] w fun e w' => e = .returned (.bool (decide (l = m))) ∧ Below w.heap.size w w' := by
  have hm := hs1.max
  have hm2 := hs2.max
  have h1 := hs1.row
  have h2 := hs2.row
  clear hs1 hs2
  unfold maxLen at hm hm2
  generalize hr : decide (l = m) = r
  have HR := Lib.hid hr; clear hr
  have H1 := Lib.hid h1; have H2 := Lib.hid h2; clear h1 h2
  by_cases hne : l.length = m.length
  · rw [← hne]
    generalize hn : l.length = n at hm hm2 hne ⊢
    have HN := Lib.hid hn; have HNM := Lib.hid hne; clear hn hne hm2
    have hd : ((n : Int) != (n : Int)) = false := by simp
    go_enter Try.func10, Try.ntmps10
    go_wp2_with fail
    go_loopw [13] (fun i wr => ∃ k : Nat, k ≤ n ∧ i = .int .i64 k ∧ Hid (∀ j, j < k → el l j = el m j) ∧ Below w.heap.size w wr) (fun i _ => n - (intOf i).toNat)
    case atStart => exact ⟨0, by omega, rfl, Lib.hid (fun j hj => absurd hj (by omega)), by go_grown⟩
    case round =>
      obtain ⟨k, hk, rfl, HS, hB⟩ := hrel
      have hz := hB.size
      by_cases hlt : k < n
      · obtain ⟨b, off, rfl, hbl, e1⟩ := strE_cell (H1.out.below hB (Nat.le_refl _)) k (by rw [HN.out]; exact hlt)
        obtain ⟨b', off', rfl, hbl', e2⟩ := strE_cell (H2.out.below hB (Nat.le_refl _)) k (by rw [← HNM.out]; exact hlt)
        by_cases hv : el l k = el m k
        · have hvd : (!((el l k).toList == (el m k).toList)) = false := by rw [str_same hv]; rfl
          have HS2 : Hid (∀ j, j < k + 1 → el l j = el m j) := Lib.hid (fun j hj => by
            rcases Nat.lt_or_ge j k with h | h
            · exact HS.out j h
            · obtain rfl : j = k := by omega
              exact hv)
          clear hv
          go_wp2_with fail
          go_quiet (fail)
          go_wp2_with fail
          go_roundw
          case rel => exact ⟨k + 1, by omega, by go_num, HS2, below_drewN hB _⟩
          case measure => simp [intOf]; omega
        · have hvd : (!((el l k).toList == (el m k).toList)) = true := by rw [str_diff hv]; rfl
          have HV : Hid (l ≠ m) := Lib.hid (fun h => hv (by rw [h]))
          clear hv
          go_wp2_with fail
          go_quiet (fail)
          go_wp2_with fail
          go_returns
          exact ⟨ret_bool (by rw [← HR.out, decide_eq_false HV.out]), below_drewN hB _⟩
      · have HV : Hid (l = m) := Lib.hid (list_ext (by rw [HN.out, HNM.out]) (fun j hj => HS.out j (by rw [HN.out] at hj; omega)))
        go_wp2_with fail
        go_returns
        exact ⟨ret_bool (by rw [← HR.out, decide_eq_true HV.out]), hB⟩
  · have HV : Hid (l ≠ m) := Lib.hid (fun h => hne (by rw [h]))
    generalize l.length = n1 at hm hne ⊢
    generalize m.length = n2 at hm2 hne ⊢
    have hd : ((n1 : Int) != (n2 : Int)) = true := by simp; omega
    have hd2 : ((n1 : Nat) != n2) = true := by simpa using hne
    go_enter Try.func10, Try.ntmps10
    go_wp2_with fail
    go_returns
    exact ⟨ret_bool (by rw [← HR.out, decide_eq_false HV.out]), by go_grown⟩

theorem info_str : (Try.prog.info? 9).map (fun i => (i.zero, i.size, i.bytes)) = some (some (.string ⟨#[]⟩), 1, 16) := by kernel_rfl

set_option maxRecDepth 100000 in
set_option maxHeartbeats 400000 in
theorem clone_str (a : Option Addr) (n c : Nat) (f : Nat → Value) (w : World) (hm : n ≤ maxLen) (hby : n * 16 ≤ 140737488355328) (hnil : a = none → n = 0)
    (hR : RowAt w 1 a n f) (h1 : ∀ k, k < n * 1 → (f k).oneCell' = true) :
    Calls Try.prog 23 #[.slice a n c] w (Made w 9 1 n ((List.range (n * 1)).map f) (a = none)) := by
  obtain ⟨i0, hi, hz0, hz1, hz2⟩ := info_parts info_str
  have hq := fun wx => Lib.run_eql_slice_nil (P := Try.prog) wx 22 9 a n c 0 0 Try.underlying22
  cases a with
  | none =>
    obtain rfl := hnil rfl
    simp only [Option.isNone] at hq
    go_enter Try.func23, Try.ntmps23
    go_wp2_with fail
    go_returns
    exact ⟨_, rfl, by simpa using World.ownsRow_nil _ _ _ _, Below.refl _ _, by simp⟩
  | some ad =>
    simp only [Option.isNone] at hq
    have HR := Lib.hid hR; clear hR
    have H1 := Lib.hid h1; clear h1
    have HN := Lib.hid hnil; clear hnil
    have HM := Lib.hid hm; clear hm
    go_enter Try.func23, Try.ntmps23
    go_wp2_with (at_builtin; refine wpList_append_own _ rfl _ _ 22 rfl w.heap.size 9 i0 (.string ⟨#[]⟩) 1 16 Try.underlying22 hi hz0 hz1 hz2 rfl (by decide) _ 0 [] rfl ?c0 ad n c ((List.range (n * 1)).map f) rfl ?c1 ?c2 ?c3 ?c4 ?c5 ?c6 ?_)
    case c0 => exact ⟨by simp, .inr ⟨_, _, _, rfl, Nat.le_refl _, by exact Blk.new _ _, Nat.le_refl _, by decide, rfl, rfl⟩⟩
    case c1 => simp
    case c2 =>
      intro j u hj
      simp only [List.getElem?_map, Option.map_eq_some_iff] at hj
      obtain ⟨k, hk, rfl⟩ := hj
      have hk2 := List.getElem?_eq_some_iff.1 hk
      obtain ⟨hk3, hk4⟩ := hk2
      rw [List.length_range] at hk3
      rw [List.getElem_range] at hk4
      subst hk4
      obtain ⟨b, off, he, hlt, hc⟩ := HR.out (by rcases Nat.eq_zero_or_pos n with h | h; (subst h; omega); exact h)
      obtain rfl := Option.some.inj he
      rw [addr_add, World.cell?_alloc_lt _ _ _ hlt]
      exact hc j hk3
    case c3 =>
      intro u hu
      obtain ⟨k, hk, rfl⟩ := List.mem_map.1 hu
      exact H1.out k (by simpa using hk)
    case c4 => simpa using HM.out
    case c5 => simpa using hby
    case c6 => simp
    intro v' w1 hown hgrow hiff
    have HI := Lib.hid hiff; clear hiff
    go_wp2_with fail
    go_returns
    refine ⟨v', rfl, by simpa using hown, ?_, ?_⟩
    · exact ((Below.refl _ _).alloc (Nat.le_refl _) _).grown hgrow (by simp) (by intro k hk; simp [Value.ownBlock] at hk; omega)
    · exact ⟨fun h => absurd h HI.out, fun h => absurd h (by simp)⟩

theorem cloneL_str (a : Option Addr) (c : Nat) (l : List ByteArray) (w : World) (hs : strE.Slc w a c l) (hby : l.length * 16 ≤ 140737488355328) :
    Calls Try.prog 23 #[.slice a l.length c] w fun e w' => ∃ v, e = .returned v ∧ strE.Own w' w.heap.size 9 v l ∧ Below w.heap.size w w' ∧ (v = .slice none 0 0 ↔ a = none) := by
  refine (clone_str a l.length c (strE.cellAt l) w hs.max hby hs.none hs.row (fun k hk => strE.cellAt_one l k hk)).mono ?_
  rintro e w' ⟨v, rfl, hown, hb, hiff⟩
  refine ⟨v, rfl, ?_, hb, hiff⟩
  have h2 := strE.cells_flat l
  show w'.ownsRow _ _ _ _ _ _
  rw [← h2]
  exact hown

structure Frame where
  num : Int
  text : ByteArray
deriving Inhabited, DecidableEq
def frameE : Enc Frame := ⟨fun x => [.int .i64 x.num, .string x.text], 2, fun _ => rfl, fun x u hu => by simp at hu; rcases hu with rfl | rfl <;> rfl, by decide⟩
theorem frameE_cell {w : World} {a : Option Addr} {l : List Frame} (h : frameE.At w a l) (i : Nat) (hi : i < l.length) : ∃ b off, a = some ⟨b, off, none⟩ ∧ b < w.heap.size ∧ w.cell? ⟨b, off + i * 2, none⟩ = some (.int .i64 (el l i).num) ∧ w.cell? ⟨b, off + i * 2 + 1, none⟩ = some (.string (el l i).text) := by
  obtain ⟨b, off, ha, hb, hc⟩ := h.cells i hi
  exact ⟨b, off, ha, hb, hc 0 (by decide), by rw [Nat.add_assoc]; exact hc 1 (by decide)⟩
theorem frame_neq (a b : Int) (s t : ByteArray) (w : World) : (binOp .neq 32 (.agg #[.int .i64 a, .string s]) (.agg #[.int .i64 b, .string t])).run Try.prog w = .ok (.bool (!(a == b && s.toList == t.toList))) w := by
  rw [run_neq_struct, run_equalIn_agg (P := Try.prog) w 9999 32 _ _ (by kernel_rfl) (by kernel_rfl)]
  simp only [Program.fieldsOf, Try.underlying32]
  simp [Op.eqFields, go_sem]
  by_cases h1 : a = b <;> by_cases h2 : s.toList = t.toList <;> simp [h1, h2]
theorem frame_ext {x y : Frame} (h1 : x.num = y.num) (h2 : x.text = y.text) : x = y := by cases x; cases y; simp_all
theorem frame_same {x y : Frame} (h : x = y) : (!(x.num == y.num && x.text.toList == y.text.toList)) = false := by rw [h]; simp
theorem frame_diff {x y : Frame} (h : x ≠ y) : (!(x.num == y.num && x.text.toList == y.text.toList)) = true := by
  simp only [Bool.not_eq_true', Bool.and_eq_false_iff, beq_eq_false_iff_ne, ne_eq]
  by_cases h1 : x.num = y.num
  · right; exact fun h2 => h (frame_ext h1 (str_inj h2))
  · exact .inl h1

set_option maxRecDepth 100000 in
set_option maxHeartbeats 1000000 in
theorem equal_frames (a1 : Option Addr) (c1 : Nat) (l : List Frame) (a2 : Option Addr) (c2 : Nat) (m : List Frame) (w : World) (hs1 : frameE.Slc w a1 c1 l) (hs2 : frameE.Slc w a2 c2 m) :
    Calls Try.prog 20 #[.slice a1 l.length c1, .slice a2 m.length c2] w fun e w' => e = .returned (.bool (decide (l = m))) ∧ Below w.heap.size w w' := by
  have hm := hs1.max
  have hm2 := hs2.max
  have h1 := hs1.row
  have h2 := hs2.row
  clear hs1 hs2
  unfold maxLen at hm hm2
  generalize hr : decide (l = m) = r
  have HR := Lib.hid hr; clear hr
  have H1 := Lib.hid h1; have H2 := Lib.hid h2; clear h1 h2
  have hq := frame_neq
  by_cases hne : l.length = m.length
  · rw [← hne]
    generalize hn : l.length = n at hm hm2 hne ⊢
    have HN := Lib.hid hn; have HNM := Lib.hid hne; clear hn hne hm2
    have hd : ((n : Int) != (n : Int)) = false := by simp
    go_enter Try.func20, Try.ntmps20
    go_wp2_with fail
    go_loopw [13] (fun i wr => ∃ k : Nat, k ≤ n ∧ i = .int .i64 k ∧ Hid (∀ j, j < k → el l j = el m j) ∧ Below w.heap.size w wr) (fun i _ => n - (intOf i).toNat)
    case atStart => exact ⟨0, by omega, rfl, Lib.hid (fun j hj => absurd hj (by omega)), by go_grown⟩
    case round =>
      obtain ⟨k, hk, rfl, HS, hB⟩ := hrel
      have hz := hB.size
      by_cases hlt : k < n
      · obtain ⟨b, off, rfl, hbl, e1, f1⟩ := frameE_cell (H1.out.below hB (Nat.le_refl _)) k (by rw [HN.out]; exact hlt)
        obtain ⟨b', off', rfl, hbl', e2, f2⟩ := frameE_cell (H2.out.below hB (Nat.le_refl _)) k (by rw [← HNM.out]; exact hlt)
        by_cases hv : el l k = el m k
        · have hvd : (!((el l k).num == (el m k).num && (el l k).text.toList == (el m k).text.toList)) = false := by exact frame_same hv
          have HS2 : Hid (∀ j, j < k + 1 → el l j = el m j) := Lib.hid (fun j hj => by
            rcases Nat.lt_or_ge j k with h | h
            · exact HS.out j h
            · obtain rfl : j = k := by omega
              exact hv)
          clear hv
          go_wp2_with fail
          go_quiet (fail)
          go_wp2_with fail
          go_roundw
          case rel => exact ⟨k + 1, by omega, by go_num, HS2, below_drewN hB _⟩
          case measure => simp [intOf]; omega
        · have hvd : (!((el l k).num == (el m k).num && (el l k).text.toList == (el m k).text.toList)) = true := by exact frame_diff hv
          have HV : Hid (l ≠ m) := Lib.hid (fun h => hv (by rw [h]))
          clear hv
          go_wp2_with fail
          go_quiet (fail)
          go_wp2_with fail
          go_returns
          exact ⟨ret_bool (by rw [← HR.out, decide_eq_false HV.out]), below_drewN hB _⟩
      · have HV : Hid (l = m) := Lib.hid (list_ext (by rw [HN.out, HNM.out]) (fun j hj => HS.out j (by rw [HN.out] at hj; omega)))
        go_wp2_with fail
        go_returns
        exact ⟨ret_bool (by rw [← HR.out, decide_eq_true HV.out]), hB⟩
  · have HV : Hid (l ≠ m) := Lib.hid (fun h => hne (by rw [h]))
    generalize l.length = n1 at hm hne ⊢
    generalize m.length = n2 at hm2 hne ⊢
    have hd : ((n1 : Int) != (n2 : Int)) = true := by simp; omega
    have hd2 : ((n1 : Nat) != n2) = true := by simpa using hne
    go_enter Try.func20, Try.ntmps20
    go_wp2_with fail
    go_returns
    exact ⟨ret_bool (by rw [← HR.out, decide_eq_false HV.out]), by go_grown⟩

theorem stepA_str {ops : Array Oper} {o : Oper} {a : Act} {Q : Exit → Act → World → Prop} {K : Act → World → Prop} {E0 : Prop} {w : World} (hgd : o.guard = none) (s x : Operand) (ho : o.op = .call { callee := .builtin .append, args := #[s, x], argTypes := #[22, 22] })
    (base : Nat) (v : Value) (l : List ByteArray) (hs : a.eval s = v) (hown : strE.Own w base 9 v l) (B : Nat) (y : ByteArray) (hx : a.eval x = .slice (some ⟨B, 0, none⟩) 1 1) (cs : Array Value) (fr : Nat × Nat) (hb : Blk w B (.cells cs 9 fr)) (hcs : cs.toList = strE.enc y) (hroom : l.length + 1 ≤ 1000000000) (hbase : base ≤ w.heap.size)
    (h : ∀ g cap w', strE.Own w' base 9 (.slice (some ⟨g, 0, none⟩) (l.length + 1) cap) (l ++ [y]) → w.grownBy w' v.ownBlock → (v.ownBlock = some g ∨ g = w.heap.size) → g < w'.heap.size → K (a.put o.dst (.slice (some ⟨g, 0, none⟩) (l.length + 1) cap)) w') :
    if Region.wanted o (yielded ops a.tmps) = true then Oper.wp Try.prog o a w K Q else E0 := by
  obtain ⟨i0, hi, hz0, hz1, hz2⟩ := info_parts info_str
  refine step_append_lies (P := Try.prog) w hgd s x 22 ho base 9 i0 (.string ⟨#[]⟩) strE.size 16 Try.underlying22 hi hz0 hz1 hz2 rfl strE.pos v l.length (strE.flat l) hs hown ⟨B, 0, none⟩ 1 1 (strE.enc y) hx (by rw [strE.len, Nat.one_mul]) (fun j u hj => World.news_of_block hb j u (by rw [hcs]; exact hj)) (strE.one y) (by decide) (by unfold maxLen; omega) (by omega) hbase _ rfl ?_
  intro g cap w' h1 h2 h3 h4
  refine h g cap w' ?_ h2 h3 h4
  show w'.ownsRow base 9 strE.size _ (l ++ [y]).length (strE.flat (l ++ [y]))
  rw [Enc.flat_snoc, List.length_append]; exact h1

theorem wpA_str {ops : Array Oper} {o : Oper} {a : Act} {Q : Exit → Act → World → Prop} {rest : List Oper} {w : World} (hgd : o.guard = none) (s x : Operand) (ho : o.op = .call { callee := .builtin .append, args := #[s, x], argTypes := #[22, 22] })
    (base : Nat) (v : Value) (l : List ByteArray) (hs : a.eval s = v) (hown : strE.Own w base 9 v l) (B : Nat) (y : ByteArray) (hx : a.eval x = .slice (some ⟨B, 0, none⟩) 1 1) (cs : Array Value) (fr : Nat × Nat) (hb : Blk w B (.cells cs 9 fr)) (hcs : cs.toList = strE.enc y) (hroom : l.length + 1 ≤ 1000000000) (hbase : base ≤ w.heap.size)
    (h : ∀ g cap w', strE.Own w' base 9 (.slice (some ⟨g, 0, none⟩) (l.length + 1) cap) (l ++ [y]) → w.grownBy w' v.ownBlock → (v.ownBlock = some g ∨ g = w.heap.size) → g < w'.heap.size → wpList Try.prog ops Q rest (a.put o.dst (.slice (some ⟨g, 0, none⟩) (l.length + 1) cap)) w') :
    wpList Try.prog ops Q (o :: rest) a w := by
  obtain ⟨i0, hi, hz0, hz1, hz2⟩ := info_parts info_str
  refine wpList_append_lies (P := Try.prog) w hgd s x 22 ho base 9 i0 (.string ⟨#[]⟩) strE.size 16 Try.underlying22 hi hz0 hz1 hz2 rfl strE.pos v l.length (strE.flat l) hs hown ⟨B, 0, none⟩ 1 1 (strE.enc y) hx (by rw [strE.len, Nat.one_mul]) (fun j u hj => World.news_of_block hb j u (by rw [hcs]; exact hj)) (strE.one y) (by decide) (by unfold maxLen; omega) (by omega) hbase _ rfl ?_
  intro g cap w' h1 h2 h3 h4
  refine h g cap w' ?_ h2 h3 h4
  show w'.ownsRow base 9 strE.size _ (l ++ [y]).length (strE.flat (l ++ [y]))
  rw [Enc.flat_snoc, List.length_append]; exact h1

theorem info_frame : (Try.prog.info? 32).map (fun i => (i.zero, i.size, i.bytes)) = some (some (.agg #[.int .i64 0, .string ⟨#[]⟩]), 2, 24) := by kernel_rfl

theorem stepA_frame {ops : Array Oper} {o : Oper} {a : Act} {Q : Exit → Act → World → Prop} {K : Act → World → Prop} {E0 : Prop} {w : World} (hgd : o.guard = none) (s x : Operand) (ho : o.op = .call { callee := .builtin .append, args := #[s, x], argTypes := #[39, 39] })
    (base : Nat) (v : Value) (l : List Frame) (hs : a.eval s = v) (hown : frameE.Own w base 32 v l) (B : Nat) (y : Frame) (hx : a.eval x = .slice (some ⟨B, 0, none⟩) 1 1) (cs : Array Value) (fr : Nat × Nat) (hb : Blk w B (.cells cs 32 fr)) (hcs : cs.toList = frameE.enc y) (hroom : l.length + 1 ≤ 1000000000) (hbase : base ≤ w.heap.size)
    (h : ∀ g cap w', frameE.Own w' base 32 (.slice (some ⟨g, 0, none⟩) (l.length + 1) cap) (l ++ [y]) → w.grownBy w' v.ownBlock → (v.ownBlock = some g ∨ g = w.heap.size) → g < w'.heap.size → K (a.put o.dst (.slice (some ⟨g, 0, none⟩) (l.length + 1) cap)) w') :
    if Region.wanted o (yielded ops a.tmps) = true then Oper.wp Try.prog o a w K Q else E0 := by
  obtain ⟨i0, hi, hz0, hz1, hz2⟩ := info_parts info_frame
  refine step_append_lies (P := Try.prog) w hgd s x 39 ho base 32 i0 (.agg #[.int .i64 0, .string ⟨#[]⟩]) frameE.size 24 Try.underlying39 hi hz0 hz1 hz2 rfl frameE.pos v l.length (frameE.flat l) hs hown ⟨B, 0, none⟩ 1 1 (frameE.enc y) hx (by rw [frameE.len, Nat.one_mul]) (fun j u hj => World.news_of_block hb j u (by rw [hcs]; exact hj)) (frameE.one y) (by decide) (by unfold maxLen; omega) (by omega) hbase _ rfl ?_
  intro g cap w' h1 h2 h3 h4
  refine h g cap w' ?_ h2 h3 h4
  show w'.ownsRow base 32 frameE.size _ (l ++ [y]).length (frameE.flat (l ++ [y]))
  rw [Enc.flat_snoc, List.length_append]; exact h1

theorem wpA_frame {ops : Array Oper} {o : Oper} {a : Act} {Q : Exit → Act → World → Prop} {rest : List Oper} {w : World} (hgd : o.guard = none) (s x : Operand) (ho : o.op = .call { callee := .builtin .append, args := #[s, x], argTypes := #[39, 39] })
    (base : Nat) (v : Value) (l : List Frame) (hs : a.eval s = v) (hown : frameE.Own w base 32 v l) (B : Nat) (y : Frame) (hx : a.eval x = .slice (some ⟨B, 0, none⟩) 1 1) (cs : Array Value) (fr : Nat × Nat) (hb : Blk w B (.cells cs 32 fr)) (hcs : cs.toList = frameE.enc y) (hroom : l.length + 1 ≤ 1000000000) (hbase : base ≤ w.heap.size)
    (h : ∀ g cap w', frameE.Own w' base 32 (.slice (some ⟨g, 0, none⟩) (l.length + 1) cap) (l ++ [y]) → w.grownBy w' v.ownBlock → (v.ownBlock = some g ∨ g = w.heap.size) → g < w'.heap.size → wpList Try.prog ops Q rest (a.put o.dst (.slice (some ⟨g, 0, none⟩) (l.length + 1) cap)) w') :
    wpList Try.prog ops Q (o :: rest) a w := by
  obtain ⟨i0, hi, hz0, hz1, hz2⟩ := info_parts info_frame
  refine wpList_append_lies (P := Try.prog) w hgd s x 39 ho base 32 i0 (.agg #[.int .i64 0, .string ⟨#[]⟩]) frameE.size 24 Try.underlying39 hi hz0 hz1 hz2 rfl frameE.pos v l.length (frameE.flat l) hs hown ⟨B, 0, none⟩ 1 1 (frameE.enc y) hx (by rw [frameE.len, Nat.one_mul]) (fun j u hj => World.news_of_block hb j u (by rw [hcs]; exact hj)) (frameE.one y) (by decide) (by unfold maxLen; omega) (by omega) hbase _ rfl ?_
  intro g cap w' h1 h2 h3 h4
  refine h g cap w' ?_ h2 h3 h4
  show w'.ownsRow base 32 frameE.size _ (l ++ [y]).length (frameE.flat (l ++ [y]))
  rw [Enc.flat_snoc, List.length_append]; exact h1

end Go.Proofs.Ytckjibjnplnfeaa
