/- ownerFact returns true. -/
import Derived.Test.YtekjoddmohjpbaaOwner12
set_option linter.unusedVariables false
set_option linter.unusedSimpArgs false
namespace Go.Proofs.Ytekjoddmohjpbaa
open Go.RowKit
attribute [local go_sem ↓] Go.wp_at_zero Go.wp_at_succ

theorem append_own_g {P : Program} (w : World) {ops : Array Oper} {rest : List Oper} {o : Oper} {a : Act} {Q : Exit → Act → World → Prop} (hgd : Region.wanted o (yielded ops a.tmps) = true) (s x : Operand) (t : TypeId)
    (ho : o.op = .call { callee := .builtin .append, args := #[s, x], argTypes := #[t, t] })
    (base : Nat) (e : TypeId) (i : TypeInfo) (z : Value) (size bytes : Nat) (ht : P.underlying t = some (.slice e)) (hi : P.info? e = some i) (hz : i.zero = some z)
    (hsize : i.size = size) (hby : i.bytes = bytes) (hzs : z.cells.size = size) (hsz : 0 < size)
    (v : Value) (n : Nat) (xs : List Value) (hs : a.eval s = v) (hown : w.ownsRow base e size v n xs)
    (ad : Addr) (m c : Nat) (news : List Value) (hx : a.eval x = .slice (some ad) m c) (hl : news.length = m * size) (hnews : ∀ j u, news[j]? = some u → w.cell? (ad.add j) = some u) (h1 : ∀ u ∈ news, u.oneCell' = true)
    (h63 : n + m ≤ maxLen) (hbytes : (n + m) * bytes ≤ 140737488355328) (hbase : base ≤ w.heap.size)
    (h : ∀ v' w', w'.ownsRow base e size v' (n + m) (xs ++ news) → w.grownBy w' v.ownBlock → (v' = .slice none 0 0 ↔ v = .slice none 0 0 ∧ m = 0) → wpList P ops Q rest (a.put o.dst v') w') : wpList P ops Q (o :: rest) a w :=
  wpList_step fun K hK => by rw [if_pos hgd]; exact wp_append_own w s x t ho base e i z size bytes ht hi hz hsize hby hzs hsz v n xs hs hown ad m c news hx hl hnews h1 h63 hbytes hbase fun v' w' h2 h3 h4 => hK _ _ (h v' w' h2 h3 h4)
set_option maxRecDepth 100000 in
set_option maxHeartbeats 4000000 in
theorem ofact_any (w : World) : Calls Try.prog 6 #[] w fun e w' => e = .returned (.bool true) ∧ Below w.heap.size w w' := by
  go_enter Try.func6, Try.ntmps6
  go_wp2_with fail
  refine (begin_nil bA1 bEast _ (by decide) (by decide) nmA nmE).mono ?_
  rintro e w1 ⟨v1, rfl, ho, hb⟩
  have hS : Below w.heap.size w w1 := Below.step (by repeat' (first | exact Below.refl _ _ | assumption | (with_reducible refine Below.alloc ?_ ?_ _) | (with_reducible refine below_drewN ?_ _) | (with_reducible refine Below.drew ?_) | (with_reducible refine Below.setCell ?_ ?_ _) | go_size)) hb (by go_size)
  have hB1 : Below w.heap.size w w1 := hS
  have hz1 := hB1.size
  clear hS hb
  rw [show (⟨bA1, bEast, noS⟩ : OEntry) = en0 from rfl] at ho
  obtain ⟨g1, c1, hv1, -, -⟩ := own_some ho (by decide)
  subst hv1
  have O1 := Lib.hid (ho)
  clear ho
  have hs1 : entE.Slc w1 (some ⟨g1, 0, none⟩) c1 [en0] := by
    obtain ⟨a, c, hv, hs⟩ := O1.out.slc
    simp only [Value.slice.injEq] at hv
    obtain ⟨rfl, -, rfl⟩ := hv
    exact hs
  have S1 := Lib.hid (hs1)
  clear hs1
  go_wp2_with fail
  refine (ofr_any (some ⟨g1, 0, none⟩) c1 [en0] bA1 bEast bWest _ S1.out (fun x h => by simp at h; subst h; decide) (by decide)).mono ?_
  rintro e w2 ⟨v2, rfl, ho, hb⟩
  have hS : Below w1.heap.size w1 w2 := Below.step (by repeat' (first | exact Below.refl _ _ | assumption | (with_reducible refine Below.alloc ?_ ?_ _) | (with_reducible refine below_drewN ?_ _) | (with_reducible refine Below.drew ?_) | (with_reducible refine Below.setCell ?_ ?_ _) | go_size)) hb (by go_size)
  replace O1 := Lib.hid (Enc.Own.after O1.out hS)
  replace S1 := Lib.hid (Enc.Slc.after S1.out hS)
  have hB2 : Below w.heap.size w w2 := hB1.trans (hS.mono hB1.size)
  have hz2 := hB2.size
  clear hS hb hB1
  rw [fOfr.2] at ho
  rw [fOfr.1]
  obtain ⟨a2, c2, hv2, hs2⟩ := ho.slc
  subst hv2
  clear ho
  have S2 := Lib.hid (hs2)
  clear hs2
  go_wp2_with fail
  refine (acc_any a2 c2 [en1] bA1 bWest _ S2.out (fun x h => by simp at h; subst h; decide)).mono ?_
  rintro e w3 ⟨v3, rfl, ho, hb⟩
  have hS : Below w2.heap.size w2 w3 := Below.step (by repeat' (first | exact Below.refl _ _ | assumption | (with_reducible refine Below.alloc ?_ ?_ _) | (with_reducible refine below_drewN ?_ _) | (with_reducible refine Below.drew ?_) | (with_reducible refine Below.setCell ?_ ?_ _) | go_size)) hb (by go_size)
  replace O1 := Lib.hid (Enc.Own.after O1.out hS)
  replace S1 := Lib.hid (Enc.Slc.after S1.out hS)
  replace S2 := Lib.hid (Enc.Slc.after S2.out hS)
  have hB3 : Below w.heap.size w w3 := hB2.trans (hS.mono hB2.size)
  have hz3 := hB3.size
  clear hS hb hB2
  rw [fAcc.2] at ho
  rw [fAcc.1]
  obtain ⟨a3, c3, hv3, hs3⟩ := ho.slc
  subst hv3
  clear ho
  have S3 := Lib.hid (hs3)
  clear hs3
  go_wp2_with fail
  refine (can_any a2 c2 [en1] bA1 bWest _ S2.out (fun x h => by simp at h; subst h; decide)).mono ?_
  rintro e w4 ⟨v4, rfl, ho, hb⟩
  have hS : Below w3.heap.size w3 w4 := Below.step (by repeat' (first | exact Below.refl _ _ | assumption | (with_reducible refine Below.alloc ?_ ?_ _) | (with_reducible refine below_drewN ?_ _) | (with_reducible refine Below.drew ?_) | (with_reducible refine Below.setCell ?_ ?_ _) | go_size)) hb (by go_size)
  replace O1 := Lib.hid (Enc.Own.after O1.out hS)
  replace S1 := Lib.hid (Enc.Slc.after S1.out hS)
  replace S2 := Lib.hid (Enc.Slc.after S2.out hS)
  replace S3 := Lib.hid (Enc.Slc.after S3.out hS)
  have hB4 : Below w.heap.size w w4 := hB3.trans (hS.mono hB3.size)
  have hz4 := hB4.size
  clear hS hb hB3
  rw [fCan.2] at ho
  rw [fCan.1]
  obtain ⟨a4, c4, hv4, hs4⟩ := ho.slc
  subst hv4
  clear ho
  have S4 := Lib.hid (hs4)
  clear hs4
  go_wp2_with fail
  refine (of_any a3 c3 [en2] bA1 _ S3.out (fun x h => by simp at h; subst h; decide)).mono ?_
  rintro e w5 ⟨rfl, hb⟩
  have hS : Below w4.heap.size w4 w5 := Below.step (by repeat' (first | exact Below.refl _ _ | assumption | (with_reducible refine Below.alloc ?_ ?_ _) | (with_reducible refine below_drewN ?_ _) | (with_reducible refine Below.drew ?_) | (with_reducible refine Below.setCell ?_ ?_ _) | go_size)) hb (by go_size)
  replace O1 := Lib.hid (Enc.Own.after O1.out hS)
  replace S1 := Lib.hid (Enc.Slc.after S1.out hS)
  replace S2 := Lib.hid (Enc.Slc.after S2.out hS)
  replace S3 := Lib.hid (Enc.Slc.after S3.out hS)
  replace S4 := Lib.hid (Enc.Slc.after S4.out hS)
  have hB5 : Below w.heap.size w w5 := hB4.trans (hS.mono hB4.size)
  have hz5 := hB5.size
  clear hS hb hB4
  rw [fOf.1, fOf.2, show bWest = ⟨#[87, 69, 83, 84]⟩ from rfl]
  go_wp2_with fail
  refine (fl_any a3 c3 [en2] bWest _ S3.out (fun x h => by simp at h; subst h; decide)).mono ?_
  rintro e w6 ⟨v5, rfl, ho, hb⟩
  have hS : Below w5.heap.size w5 w6 := Below.step (by repeat' (first | exact Below.refl _ _ | assumption | (with_reducible refine Below.alloc ?_ ?_ _) | (with_reducible refine below_drewN ?_ _) | (with_reducible refine Below.drew ?_) | (with_reducible refine Below.setCell ?_ ?_ _) | go_size)) hb (by go_size)
  replace O1 := Lib.hid (Enc.Own.after O1.out hS)
  replace S1 := Lib.hid (Enc.Slc.after S1.out hS)
  replace S2 := Lib.hid (Enc.Slc.after S2.out hS)
  replace S3 := Lib.hid (Enc.Slc.after S3.out hS)
  replace S4 := Lib.hid (Enc.Slc.after S4.out hS)
  have hB6 : Below w.heap.size w w6 := hB5.trans (hS.mono hB5.size)
  have hz6 := hB6.size
  clear hS hb hB5
  rw [fFl.2] at ho
  rw [fFl.1]
  obtain ⟨a5, c5, hv5, hs5⟩ := ho.slc
  subst hv5
  clear ho
  have S5 := Lib.hid (hs5)
  clear hs5
  go_wp2_with fail
  refine (mv_any a2 c2 [en1] bWest bEast _ S2.out (fun x h => by simp at h; subst h; decide) (by decide) (by decide)).mono ?_
  rintro e w7 ⟨v6, rfl, ho, hb⟩
  have hS : Below w6.heap.size w6 w7 := Below.step (by repeat' (first | exact Below.refl _ _ | assumption | (with_reducible refine Below.alloc ?_ ?_ _) | (with_reducible refine below_drewN ?_ _) | (with_reducible refine Below.drew ?_) | (with_reducible refine Below.setCell ?_ ?_ _) | go_size)) hb (by go_size)
  replace O1 := Lib.hid (Enc.Own.after O1.out hS)
  replace S1 := Lib.hid (Enc.Slc.after S1.out hS)
  replace S2 := Lib.hid (Enc.Slc.after S2.out hS)
  replace S3 := Lib.hid (Enc.Slc.after S3.out hS)
  replace S4 := Lib.hid (Enc.Slc.after S4.out hS)
  replace S5 := Lib.hid (Enc.Slc.after S5.out hS)
  have hB7 : Below w.heap.size w w7 := hB6.trans (hS.mono hB6.size)
  have hz7 := hB7.size
  clear hS hb hB6
  rw [fMv.2] at ho
  rw [fMv.1]
  obtain ⟨a6, c6, hv6, hs6⟩ := ho.slc
  subst hv6
  clear ho
  have S6 := Lib.hid (hs6)
  clear hs6
  clear S2
  go_wp2_with fail
  refine (end_any a3 c3 [en2] bA1 bWest _ S3.out (fun x h => by simp at h; subst h; decide)).mono ?_
  rintro e w8 ⟨v7, rfl, ho, hb⟩
  have hS : Below w7.heap.size w7 w8 := Below.step (by repeat' (first | exact Below.refl _ _ | assumption | (with_reducible refine Below.alloc ?_ ?_ _) | (with_reducible refine below_drewN ?_ _) | (with_reducible refine Below.drew ?_) | (with_reducible refine Below.setCell ?_ ?_ _) | go_size)) hb (by go_size)
  replace O1 := Lib.hid (Enc.Own.after O1.out hS)
  replace S1 := Lib.hid (Enc.Slc.after S1.out hS)
  replace S3 := Lib.hid (Enc.Slc.after S3.out hS)
  replace S4 := Lib.hid (Enc.Slc.after S4.out hS)
  replace S5 := Lib.hid (Enc.Slc.after S5.out hS)
  replace S6 := Lib.hid (Enc.Slc.after S6.out hS)
  have hB8 : Below w.heap.size w w8 := hB7.trans (hS.mono hB7.size)
  have hz8 := hB8.size
  clear hS hb hB7
  rw [fEnd.2] at ho
  rw [fEnd.1]
  obtain ⟨a7, c7, hv7, -⟩ := ho.slc
  subst hv7
  clear ho
  rw [show ([] : List OEntry).length = 0 from rfl]
  go_wp2_with fail
  refine (end_any a3 c3 [en2] bA1 bEast _ S3.out (fun x h => by simp at h; subst h; decide)).mono ?_
  rintro e w9 ⟨v8, rfl, -, hb⟩
  have hS : Below w8.heap.size w8 w9 := Below.step (by repeat' (first | exact Below.refl _ _ | assumption | (with_reducible refine Below.alloc ?_ ?_ _) | (with_reducible refine below_drewN ?_ _) | (with_reducible refine Below.drew ?_) | (with_reducible refine Below.setCell ?_ ?_ _) | go_size)) hb (by go_size)
  replace O1 := Lib.hid (Enc.Own.after O1.out hS)
  replace S1 := Lib.hid (Enc.Slc.after S1.out hS)
  replace S3 := Lib.hid (Enc.Slc.after S3.out hS)
  replace S4 := Lib.hid (Enc.Slc.after S4.out hS)
  replace S5 := Lib.hid (Enc.Slc.after S5.out hS)
  replace S6 := Lib.hid (Enc.Slc.after S6.out hS)
  have hB9 : Below w.heap.size w w9 := hB8.trans (hS.mono hB8.size)
  have hz9 := hB9.size
  clear hS hb hB8
  rw [fEnd2]
  clear S3
  go_wp2_with fail
  refine (equal_strs a5 c5 [bA1] _ _ [bA1] _ (S5.out.after (by repeat' (first | exact Below.refl _ _ | assumption | (with_reducible refine Below.alloc ?_ ?_ _) | (with_reducible refine below_drewN ?_ _) | (with_reducible refine Below.drew ?_) | (with_reducible refine Below.setCell ?_ ?_ _) | go_size))) (Enc.Slc.block (Blk.newAt _ _ _ rfl) rfl (by decide))).mono ?_
  rintro e w10 ⟨rfl, hb⟩
  have hS : Below w9.heap.size w9 w10 := Below.step (by repeat' (first | exact Below.refl _ _ | assumption | (with_reducible refine Below.alloc ?_ ?_ _) | (with_reducible refine below_drewN ?_ _) | (with_reducible refine Below.drew ?_) | (with_reducible refine Below.setCell ?_ ?_ _) | go_size)) hb (by go_size)
  replace O1 := Lib.hid (Enc.Own.after O1.out hS)
  replace S1 := Lib.hid (Enc.Slc.after S1.out hS)
  replace S4 := Lib.hid (Enc.Slc.after S4.out hS)
  replace S5 := Lib.hid (Enc.Slc.after S5.out hS)
  replace S6 := Lib.hid (Enc.Slc.after S6.out hS)
  have hB10 : Below w.heap.size w w10 := hB9.trans (hS.mono hB9.size)
  have hz10 := hB10.size
  clear hS hb hB9
  rw [decide_eq_true rfl]
  clear S5
  go_wp2_with fail
  refine (equal_ents (some ⟨g1, 0, none⟩) c1 [en0] a4 c4 [en0] _ S1.out S4.out).mono ?_
  rintro e w11 ⟨rfl, hb⟩
  have hS : Below w10.heap.size w10 w11 := Below.step (by repeat' (first | exact Below.refl _ _ | assumption | (with_reducible refine Below.alloc ?_ ?_ _) | (with_reducible refine below_drewN ?_ _) | (with_reducible refine Below.drew ?_) | (with_reducible refine Below.setCell ?_ ?_ _) | go_size)) hb (by go_size)
  replace O1 := Lib.hid (Enc.Own.after O1.out hS)
  replace S1 := Lib.hid (Enc.Slc.after S1.out hS)
  replace S4 := Lib.hid (Enc.Slc.after S4.out hS)
  replace S6 := Lib.hid (Enc.Slc.after S6.out hS)
  have hB11 : Below w.heap.size w w11 := hB10.trans (hS.mono hB10.size)
  have hz11 := hB11.size
  clear hS hb hB10
  rw [decide_eq_true rfl]
  clear S4
  go_wp2_with fail
  refine (equal_ents (some ⟨g1, 0, none⟩) c1 [en0] a6 c6 [en0] _ S1.out S6.out).mono ?_
  rintro e w12 ⟨rfl, hb⟩
  have hS : Below w11.heap.size w11 w12 := Below.step (by repeat' (first | exact Below.refl _ _ | assumption | (with_reducible refine Below.alloc ?_ ?_ _) | (with_reducible refine below_drewN ?_ _) | (with_reducible refine Below.drew ?_) | (with_reducible refine Below.setCell ?_ ?_ _) | go_size)) hb (by go_size)
  replace O1 := Lib.hid (Enc.Own.after O1.out hS)
  replace S1 := Lib.hid (Enc.Slc.after S1.out hS)
  replace S6 := Lib.hid (Enc.Slc.after S6.out hS)
  have hB12 : Below w.heap.size w w12 := hB11.trans (hS.mono hB11.size)
  have hz12 := hB12.size
  clear hS hb hB11
  rw [decide_eq_true rfl]
  clear S6
  go_wp2_with fail
  refine (oname_any bA1 _ (by decide)).mono ?_
  rintro e w13 ⟨rfl, hb⟩
  have hS : Below w12.heap.size w12 w13 := Below.step (by repeat' (first | exact Below.refl _ _ | assumption | (with_reducible refine Below.alloc ?_ ?_ _) | (with_reducible refine below_drewN ?_ _) | (with_reducible refine Below.drew ?_) | (with_reducible refine Below.setCell ?_ ?_ _) | go_size)) hb (by go_size)
  replace O1 := Lib.hid (Enc.Own.after O1.out hS)
  replace S1 := Lib.hid (Enc.Slc.after S1.out hS)
  have hB13 : Below w.heap.size w w13 := hB12.trans (hS.mono hB12.size)
  have hz13 := hB13.size
  clear hS hb hB12
  rw [nmA]
  clear S1
  obtain ⟨i0, hi, hz0, hz1, hz2⟩ := info_parts info_ent
  have hi := Lib.hid hi; have hz0 := Lib.hid hz0; have hz1 := Lib.hid hz1; have hz2 := Lib.hid hz2
  go_wp2_with (at_builtin; refine append_own_g _ (by rfl) _ _ 22 rfl w.heap.size 32 i0 (.agg #[.string ⟨#[]⟩, .string ⟨#[]⟩, .string ⟨#[]⟩]) 3 48 Try.underlying22 hi.out hz0.out hz1.out hz2.out rfl (by decide) (.slice (some ⟨g1, 0, none⟩) 1 c1) 1 (entE.flat [en0]) rfl ?c0 ⟨g1, 0, none⟩ 1 c1 (entE.flat [en0]) rfl rfl ?c2 ?c3 ?c4 ?c5 ?c6 ?_)
  case c0 => exact O1.out
  case c2 =>
    intro j u hu
    rw [addr_add, Nat.zero_add]
    have hj : j < 3 := by
      rcases Nat.lt_or_ge j 3 with h | h
      · exact h
      · rw [List.getElem?_eq_none (by rw [entE.flat_len]; exact h)] at hu; cases hu
    rw [World.ownsRow.cellAt O1.out j (by exact hj)]; exact hu
  case c3 => exact entE.flat_one _
  case c4 => unfold maxLen; omega
  case c5 => omega
  case c6 => exact hz13
  intro v' wl hown2 hgrow hiff
  have hB2 := Below.grown (B := w.heap.size) (a := w) hB13 hgrow hz13 (ownsRow_blockBelow O1.out)
  obtain ⟨a9, c9, hv9, hs9⟩ := Enc.Own.slc (E := entE) (l := [en0, en0]) (base := w.heap.size) (T := 32) (v := v') hown2
  subst hv9
  have S9 := Lib.hid hs9
  clear hown2 hgrow hiff hs9 hB13 hz13 O1
  have hzl := hB2.size
  go_wp2_with fail
  refine (ocheck_any a9 c9 [en0, en0] _ S9.out (fun x h => by simp at h; subst h; decide)).mono ?_
  rintro e wm ⟨rfl, hb⟩
  rw [fTw]
  have hB3 := hB2.trans (hb.mono hzl)
  clear hb hB2
  go_wp2_with fail
  go_returns
  exact ⟨rfl, hB3⟩

end Go.Proofs.Ytekjoddmohjpbaa
