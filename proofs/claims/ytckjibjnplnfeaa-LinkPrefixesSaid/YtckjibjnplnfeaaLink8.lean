/- What the two closures of LinkPrefixes do. -/
import Derived.Test.YtckjibjnplnfeaaLinkFact
set_option linter.unusedVariables false
set_option linter.unusedSimpArgs false
namespace Go.Proofs.Ytckjibjnplnfeaa
open Go.RowKit
attribute [local go_sem ↓] Go.wp_at_zero Go.wp_at_succ

/- only blocks of S have changed, and new ones were made -/
structure Keeps (S : Nat → Prop) (w w' : World) : Prop where
  os : w'.os = w.os
  tape : w'.tape = w.tape
  output : w'.output = w.output
  size : w.heap.size ≤ w'.heap.size
  block : ∀ k, k < w.heap.size → ¬ S k → w'.heap[k]? = w.heap[k]?
theorem Keeps.refl (S : Nat → Prop) (w : World) : Keeps S w w := ⟨rfl, rfl, rfl, Nat.le_refl _, fun _ _ _ => rfl⟩
theorem Keeps.trans {S : Nat → Prop} {a b c : World} (h : Keeps S a b) (k : Keeps S b c) : Keeps S a c :=
  ⟨k.os.trans h.os, k.tape.trans h.tape, k.output.trans h.output, Nat.le_trans h.size k.size, fun q hq hs => (k.block q (Nat.lt_of_lt_of_le hq h.size) hs).trans (h.block q hq hs)⟩
theorem Keeps.mono {S S' : Nat → Prop} {a b : World} (h : Keeps S a b) (hs : ∀ k, S k → S' k) : Keeps S' a b := ⟨h.os, h.tape, h.output, h.size, fun k hk hn => h.block k hk (fun h' => hn (hs k h'))⟩
theorem Keeps.of_below {S : Nat → Prop} {a b : World} (h : Below a.heap.size a b) : Keeps S a b := ⟨h.os, h.tape, h.output, h.size, fun k hk _ => h.block k hk⟩
theorem Keeps.of_grown {S : Nat → Prop} {a b : World} {row : Option Nat} (h : a.grownBy b row) (hs : ∀ k, row = some k → S k) : Keeps S a b := ⟨h.os, h.tape, h.output, h.size, fun k hk hn => h.block k hk (fun he => hn (hs k he.symm))⟩
theorem Keeps.setCell {S : Nat → Prop} {a b : World} (h : Keeps S a b) {p : Addr} (hp : S p.block) (u : Value) : Keeps S a (b.setCell p u) :=
  h.trans ⟨rfl, rfl, rfl, by simp [World.setCell], fun k hk hn => Below.heap_setCell _ _ _ _ (fun he => hn (he ▸ hp))⟩
theorem Keeps.drew {S : Nat → Prop} {a b : World} (h : Keeps S a b) : Keeps S a b.drew := ⟨h.os, h.tape, h.output, h.size, h.block⟩
theorem Keeps.alloc {S : Nat → Prop} {a b : World} (h : Keeps S a b) (o : Obj) : Keeps S a (b.alloc o) :=
  h.trans ⟨rfl, rfl, rfl, by simp, fun k hk _ => Below.heap_alloc _ _ _ hk⟩
theorem Keeps.below {S : Nat → Prop} {B : Nat} {a b : World} (h : Keeps S a b) (hB : B ≤ a.heap.size) (hs : ∀ k, S k → B ≤ k) : Below B a b := ⟨h.os, h.tape, h.output, h.size, fun k hk => h.block k (by omega) (fun hn => by have := hs k hn; omega)⟩
theorem Blk.keeps {S : Nat → Prop} {w w' : World} {b : Nat} {o : Obj} (h : Blk w b o) (hk : Keeps S w w') (hs : ¬ S b) : Blk w' b o := by
  unfold Blk at *; rw [hk.block b (lt_of_block h) hs]; exact h
theorem ownsRow_keeps {S : Nat → Prop} {W w' : World} {base : Nat} {e : TypeId} {size : Nat} {v : Value} {n : Nat} {xs : List Value} (h : W.ownsRow base e size v n xs) (hk : Keeps S W w') (hs : ∀ k, v.ownBlock = some k → ¬ S k) : w'.ownsRow base e size v n xs := by
  obtain ⟨hl, h | ⟨g, cap, cur, h1, h2, h3, h4⟩⟩ := h
  · exact ⟨hl, .inl h⟩
  · exact ⟨hl, .inr ⟨g, cap, cur, h1, h2, by rw [hk.block g (lt_of_block h3) (hs g (by rw [h1]; rfl))]; exact h3, h4⟩⟩
/- a row does not lie in a block of S -/
def Out (n : Nat) (a : Option Addr) (S : Nat → Prop) : Prop := 0 < n → ∀ x, a = some x → ¬ S x.block
theorem RowAt.keeps {S : Nat → Prop} {w w' : World} {size : Nat} {a : Option Addr} {n : Nat} {f : Nat → Value} (h : RowAt w size a n f) (hk : Keeps S w w') (hs : Out n a S) : RowAt w' size a n f := by
  intro hn
  obtain ⟨b, off, ha, hlt, hc⟩ := h hn
  refine ⟨b, off, ha, Nat.lt_of_lt_of_le hlt hk.size, fun k hkk => ?_⟩
  rw [World.cell?_of_block (w := w) (by exact hk.block b hlt (hs hn _ ha))]
  exact hc k hkk
theorem Enc.Slc.keeps {α : Type} {E : Enc α} {S : Nat → Prop} {w w' : World} {a : Option Addr} {c : Nat} {l : List α} (h : E.Slc w a c l) (hk : Keeps S w w') (hs : Out l.length a S) : E.Slc w' a c l :=
  ⟨h.1, h.2.1, h.2.2.1, RowAt.keeps h.2.2.2 hk hs⟩

def tkS (bn bg : Nat) (vg : Value) (k : Nat) : Prop := k = bn ∨ k = bg ∨ vg.ownBlock = some k
def Tk (w : World) (bn bg base : Nat) (T : List ByteArray) (n' : Nat) (vg : Value) (e : Ending) (w' : World) : Prop :=
  e = .returned (.bool true) ∧ Blk w' bn (.cells #[.int .i64 (n' : Int)] 3) ∧ ∃ vg', Blk w' bg (.cells #[vg'] 22) ∧ strE.Own w' base 9 vg' (T.take (n' - 1)) ∧ Keeps (tkS bn bg vg) w w' ∧ (vg'.ownBlock = vg.ownBlock ∨ ∀ k, vg'.ownBlock = some k → w.heap.size ≤ k)
theorem take_le_120 {T : List ByteArray} (hsz : ∀ t ∈ T, t.size ≤ 120) {m : Nat} (h : m < T.length) : (el T m).size ≤ 120 := hsz _ (el_mem h)

set_option maxRecDepth 100000 in
set_option maxHeartbeats 1000000 in
theorem tk_any (bn bg bt base : Nat) (n m : Nat) (T : List ByteArray) (ta : Option Addr) (tc : Nat) (vg : Value) (w : World) (hbn : Blk w bn (.cells #[.int .i64 (n : Int)] 3)) (hbg : Blk w bg (.cells #[vg] 22)) (hbt : Blk w bt (.cells #[.slice ta T.length tc] 22)) (hT : strE.Slc w ta tc T) (hTo : Out T.length ta (fun k => bt ≤ k)) (hG : strE.Own w base 9 vg (T.take (n - 1)))
    (h1 : bt < bn) (h2 : bn < bg) (h3 : bg < base) (h4 : base ≤ w.heap.size) (n1 : 1 ≤ n) (n2 : n ≤ T.length + 1) (m1 : 1 ≤ m) (m2 : m ≤ T.length) (ht : T.length ≤ 32) (hsz : ∀ t ∈ T, t.size ≤ 120) :
    Calls Try.prog 8 #[.agg #[.int .i64 (m : Int), .string (el T (m - 1))], .pointer (some ⟨bn, 0, none⟩), .pointer (some ⟨bg, 0, none⟩), .pointer (some ⟨bt, 0, none⟩)] w (Tk w bn bg base T (if m = n then n + 1 else n) vg) := by
  have hs1 := take_le_120 hsz (m := m - 1) (by omega)
  have HSz := Lib.hid hsz; clear hsz
  obtain ⟨lbn, xn, fn⟩ := hbn.one
  obtain ⟨lbg, xg, fg⟩ := hbg.one
  obtain ⟨lbt, xt, ft⟩ := hbt.one
  have HBn := Lib.hid hbn; have HBg := Lib.hid hbg; have HBt := Lib.hid hbt; have HT := Lib.hid hT; have HTo := Lib.hid hTo; have HG := Lib.hid hG
  clear hbn hbg hbt hT hTo hG
  obtain ⟨G, hGe⟩ : ∃ G : List ByteArray, G = T.take (n - 1) := ⟨_, rfl⟩
  have hGl : G.length = n - 1 := by rw [hGe, List.length_take]; omega
  have HGe := Lib.hid hGe
  have hgl1 : G.length + 1 ≤ n := by omega
  have hgl2 : n ≤ G.length + 1 := by omega
  have HGl := Lib.hid hGl; clear hGl
  rw [← hGe] at HG
  obtain ⟨ga, gc, hv, -⟩ := HG.out.slc
  subst hv
  clear hGe
  have htr : takeR n ⟨m, el T (m - 1)⟩ = if m = n then ((n : Int) + 1, true, 0) else ((n : Int), false, 0) := by
    have o1 : outB n = false := decide_eq_false (by omega)
    have o2 : outB m = false := decide_eq_false (by omega)
    have e : takeR n ⟨m, el T (m - 1)⟩ = if (outB n || outB m) = true then (0, false, 4) else if 120 < (el T (m - 1)).size then (0, false, 2) else if (m : Int) = n then ((n : Int) + 1, true, 0) else ((n : Int), false, 0) := rfl
    rw [e, o1, o2, if_neg (by decide), if_neg (by omega)]
    by_cases hm : m = n
    · rw [if_pos (by omega), if_pos hm]
    · rw [if_neg (by omega), if_neg hm]
  by_cases hm : m = n
  · rw [if_pos hm] at htr ⊢
    subst hm
    have HTr := Lib.hid htr; clear htr
    go_enter Try.func8, Try.ntmps8
    go_wp2_with fail
    refine (take_any (m : Int) (m : Int) (el T (m - 1)) _ (by unfold maxLen; omega)).mono ?_
    rintro e w1 ⟨rfl, hb⟩
    rw [HTr.out]
    have hz := hb.size
    simp only [World.size_alloc] at hz
    have Bf := Lib.hid (Blk.after (Blk.new w _) hb)
    obtain ⟨lf, f0, f1, -, -⟩ := Bf.out.two
    have HBn1 := Lib.hid (Blk.after (HBn.out.alloc _) hb)
    have HBg1 := Lib.hid (Blk.after (HBg.out.alloc _) hb)
    have HBt1 := Lib.hid (Blk.after (HBt.out.alloc _) hb)
    have HG1 := Lib.hid (HG.out.after (Below.step (by repeat' (first | exact Below.refl _ _ | assumption | (with_reducible refine Below.alloc ?_ ?_ _) | (with_reducible refine below_drewN ?_ _) | (with_reducible refine Below.drew ?_) | (with_reducible refine Below.setCell ?_ ?_ _) | go_size)) hb (by go_size)))
    have hK1 : Keeps (tkS bn bg (.slice ga G.length gc)) w w1 := Keeps.of_below (Below.step (by repeat' (first | exact Below.refl _ _ | assumption | (with_reducible refine Below.alloc ?_ ?_ _) | (with_reducible refine below_drewN ?_ _) | (with_reducible refine Below.drew ?_) | (with_reducible refine Below.setCell ?_ ?_ _) | go_size)) hb (by go_size))
    clear hb xn xg xt fn fg ft lbn lbg lbt
    obtain ⟨lbn, xn, fn⟩ := HBn1.out.one
    obtain ⟨lbg, xg, fg⟩ := HBg1.out.one
    obtain ⟨lbt, xt, ft⟩ := HBt1.out.one
    go_wp2_with (at_builtin; refine wpA_str rfl _ _ rfl base (.slice ga G.length gc) G rfl ?c0 _ (el T (m - 1)) rfl #[.string (el T (m - 1))] (0, 0) ?c1 rfl ?c2 ?c3 ?_)
    case c0 => exact HG1.out.after (by repeat' (first | exact Below.refl _ _ | assumption | (with_reducible refine Below.alloc ?_ ?_ _) | (with_reducible refine below_drewN ?_ _) | (with_reducible refine Below.drew ?_) | (with_reducible refine Below.setCell ?_ ?_ _) | go_size))
    case c1 => exact Blk.newAt _ _ _ (by first | rfl | (simp; done))
    case c2 => omega
    case c3 => (have := HG1.out.lt; simp; omega)
    intro g cap w2 hown2 hgrow hat hlt2
    have hne : ∀ q, q < base → some q ≠ (Value.slice ga G.length gc).ownBlock := fun q hq hh => by have := (HG.out.lt q hh.symm).1; omega
    have hK2 : Keeps (tkS bn bg (.slice ga G.length gc)) w w2 := (hK1.alloc _).trans (Keeps.of_grown hgrow (fun k hk => .inr (.inr hk)))
    have HBn2 := Lib.hid ((hgrow.block bn (by simp; omega) (hne bn (by omega))).trans (HBn1.out.alloc _))
    have HBg2 := Lib.hid ((hgrow.block bg (by simp; omega) (hne bg (by omega))).trans (HBg1.out.alloc _))
    have HBt2 := Lib.hid ((hgrow.block bt (by simp; omega) (hne bt (by omega))).trans (HBt1.out.alloc _))
    have hGT : G ++ [el T (m - 1)] = T.take m := by rw [HGe.out, ← take_el (by omega), show m - 1 + 1 = m by omega]
    rw [hGT] at hown2
    have HO2 := Lib.hid hown2
    have HAt := Lib.hid hat
    clear hgrow hat hown2 hGT xn xg xt fn fg ft lbn lbg lbt HBn1 HBg1 HBt1 HG1 hK1 f0 f1 lf Bf
    obtain ⟨lbn, xn, fn⟩ := Blk.one HBn2.out
    obtain ⟨lbg, xg, fg⟩ := Blk.one HBg2.out
    obtain ⟨lbt, xt, ft⟩ := Blk.one HBt2.out
    go_wp2_with fail
    have HBn3 := Lib.hid (Blk.set (Blk.other HBn2.out (a := ⟨bg, 0, none⟩) (by simp; omega) (.slice (some ⟨g, 0, none⟩) (G.length + 1) cap)) 0 (.int .i64 ((m : Int) + 1)))
    have HBg3 := Lib.hid ((Blk.set HBg2.out 0 (.slice (some ⟨g, 0, none⟩) (G.length + 1) cap)).other (a := ⟨bn, 0, none⟩) (by simp; omega) (.int .i64 ((m : Int) + 1)))
    have HBt3 := Lib.hid ((Blk.other HBt2.out (a := ⟨bg, 0, none⟩) (by simp; omega) (.slice (some ⟨g, 0, none⟩) (G.length + 1) cap)).other (a := ⟨bn, 0, none⟩) (by simp; omega) (.int .i64 ((m : Int) + 1)))
    have HO3 := Lib.hid (show strE.Own _ base 9 (.slice (some ⟨g, 0, none⟩) (G.length + 1) cap) (T.take m) from ownsRow_setCell_below (ownsRow_setCell_below HO2.out (a := ⟨bg, 0, none⟩) (by simp; omega) (.slice (some ⟨g, 0, none⟩) (G.length + 1) cap)) (a := ⟨bn, 0, none⟩) (by simp; omega) (.int .i64 ((m : Int) + 1)))
    have hK3 := (hK2.setCell (p := ⟨bg, 0, none⟩) (.inr (.inl rfl)) (.slice (some ⟨g, 0, none⟩) (G.length + 1) cap)).setCell (p := ⟨bn, 0, none⟩) (.inl rfl) (.int .i64 ((m : Int) + 1))
    simp only [List.setIfInBounds_toArray, List.set_cons_zero] at HBn3 HBg3
    clear xn xg xt fn fg ft lbn lbg lbt HBn2 HBg2 HBt2 HO2 hK2
    generalize (w2.setCell ⟨bg, 0, none⟩ (.slice (some ⟨g, 0, none⟩) (G.length + 1) cap)).setCell ⟨bn, 0, none⟩ (.int .i64 ((m : Int) + 1)) = w3 at HBn3 HBg3 HBt3 HO3 hK3 ⊢
    obtain ⟨lbg, xg, fg⟩ := Blk.one HBg3.out
    obtain ⟨lbt, xt, ft⟩ := Blk.one HBt3.out
    have HT3 : Hid (strE.Slc w3 ta tc (T.take m)) := Lib.hid ((HT.out.keeps hK3 (fun hn x hx hs => HTo.out hn x hx (by rcases hs with h | h | h; (rw [h]; show bt ≤ bn; omega); (rw [h]; show bt ≤ bg; omega); (have h9 := (HG.out.lt _ h).1; show bt ≤ x.block; omega)))).head m)
    have HSG : Hid (strE.Slc w3 (some ⟨g, 0, none⟩) cap (T.take m)) := by
      obtain ⟨a9, c9, h9, h10⟩ := HO3.out.slc
      simp only [Value.slice.injEq] at h9
      obtain ⟨rfl, -, rfl⟩ := h9
      exact Lib.hid h10
    have hcut := fun wx => run_head (P := Try.prog) (t := 22) (e := 9) (size := 1) Try.underlying22 (fun _ => by kernel_rfl) ta T.length tc (G.length + 1) (by have := HT.out.1; omega) ((G.length : Int) + 1) (by omega) wx
    have HEQ : Hid (∀ W, strE.Slc W (some ⟨g, 0, none⟩) (cap) (T.take (m)) → strE.Slc W ta tc (T.take (m)) → Calls Try.prog 10 #[.slice (some ⟨g, 0, none⟩) (G.length + 1) (cap), .slice ta (G.length + 1) tc] W fun e w' => e = .returned (.bool true) ∧ Below W.heap.size W w') := Lib.hid (fun W hW1 hW2 => by
      have h := equal_strs _ _ _ _ _ _ W hW1 hW2
      rw [decide_eq_true rfl, List.length_take, show min (m) T.length = G.length + 1 by omega] at h
      exact h)
    have q1 : decide (G.length + 1 ≤ T.length) = true := by simp; omega
    have q2 : decide (((G.length : Int) + 1 : Int) ≤ (T.length : Int)) = true := by simp; omega
    have q3 : IntKind.i64.wrap ((G.length : Int) + 1 + 1) = (G.length : Int) + 1 + 1 := IntWalk.i64_in _ (by omega)
    have q4 : (((m : Int) + 1 : Int) == (G.length : Int) + 1 + 1) = true := by simp; omega
    have q5 : (0 : Int) ≤ (G.length : Int) + 1 := by omega
    go_region_held3 (fun w' => w'.cell? ⟨bg, 0, none⟩ = some (.slice (some ⟨g, 0, none⟩) (G.length + 1) (cap)) ∧ w'.cell? ⟨bt, 0, none⟩ = some (.slice ta T.length tc))
      (first | go_keep | exact ⟨by assumption, by assumption⟩)
      ((go_at_call 10; refine (HEQ.out _ (HSG.out.after (by repeat' (first | exact Below.refl _ _ | assumption | (with_reducible refine Below.alloc ?_ ?_ _) | (with_reducible refine below_drewN ?_ _) | (with_reducible refine Below.drew ?_) | (with_reducible refine Below.setCell ?_ ?_ _) | go_size))) (HT3.out.after (by repeat' (first | exact Below.refl _ _ | assumption | (with_reducible refine Below.alloc ?_ ?_ _) | (with_reducible refine below_drewN ?_ _) | (with_reducible refine Below.drew ?_) | (with_reducible refine Below.setCell ?_ ?_ _) | go_size)))).mono ?_; rintro e w4 ⟨rfl, hb4⟩; have HBg4 := Lib.hid (Blk.after HBg3.out.drew hb4); have HBt4 := Lib.hid (Blk.after HBt3.out.drew hb4); obtain ⟨-, xg4, -⟩ := Blk.one HBg4.out; obtain ⟨-, xt4, -⟩ := Blk.one HBt4.out))
    have hK4 : Keeps (tkS bn bg (.slice ga G.length gc)) w w4 := hK3.drew.trans (Keeps.of_below hb4)
    have HBn4 := Lib.hid (Blk.after HBn3.out.drew hb4)
    have HO4 := Lib.hid (HO3.out.after (Below.step (B := w3.heap.size) (Below.drew (Below.refl _ _)) hb4 (Nat.le_refl _)))
    go_wp2_with fail
    go_returns
    exact ⟨rfl, HBn4.out, _, HBg4.out, HO4.out, hK4, by rcases HAt.out with h | h; (exact .inl h.symm); (exact .inr (fun k hk => by simp [Value.ownBlock] at hk; (try simp at h); omega))⟩
  · rw [if_neg hm] at htr ⊢
    have HTr := Lib.hid htr; clear htr
    go_enter Try.func8, Try.ntmps8
    go_wp2_with fail
    refine (take_any (n : Int) (m : Int) (el T (m - 1)) _ (by unfold maxLen; omega)).mono ?_
    rintro e w1 ⟨rfl, hb⟩
    rw [HTr.out]
    have hz := hb.size
    simp only [World.size_alloc] at hz
    have HBn1 := Lib.hid (Blk.after (HBn.out.alloc _) hb)
    have HBg1 := Lib.hid (Blk.after (HBg.out.alloc _) hb)
    have HBt1 := Lib.hid (Blk.after (HBt.out.alloc _) hb)
    have HG1 := Lib.hid (HG.out.after (Below.step (by repeat' (first | exact Below.refl _ _ | assumption | (with_reducible refine Below.alloc ?_ ?_ _) | (with_reducible refine below_drewN ?_ _) | (with_reducible refine Below.drew ?_) | (with_reducible refine Below.setCell ?_ ?_ _) | go_size)) hb (by go_size)))
    have hK1 : Keeps (tkS bn bg (.slice ga G.length gc)) w w1 := Keeps.of_below (Below.step (by repeat' (first | exact Below.refl _ _ | assumption | (with_reducible refine Below.alloc ?_ ?_ _) | (with_reducible refine below_drewN ?_ _) | (with_reducible refine Below.drew ?_) | (with_reducible refine Below.setCell ?_ ?_ _) | go_size)) hb (by go_size))
    clear hb xn xg xt fn fg ft lbn lbg lbt
    obtain ⟨lbn, xn, fn⟩ := HBn1.out.one
    obtain ⟨lbg, xg, fg⟩ := HBg1.out.one
    obtain ⟨lbt, xt, ft⟩ := HBt1.out.one
    go_wp2_with fail
    have HBn3 := Lib.hid (Blk.set HBn1.out 0 (.int .i64 (n : Int)))
    have HBg3 := Lib.hid (Blk.other HBg1.out (a := ⟨bn, 0, none⟩) (by simp; omega) (.int .i64 (n : Int)))
    have HBt3 := Lib.hid (Blk.other HBt1.out (a := ⟨bn, 0, none⟩) (by simp; omega) (.int .i64 (n : Int)))
    have HO3 := Lib.hid (show strE.Own _ base 9 (.slice ga G.length gc) G from ownsRow_setCell_below HG1.out (a := ⟨bn, 0, none⟩) (by simp; omega) (.int .i64 (n : Int)))
    have hK3 := hK1.setCell (p := ⟨bn, 0, none⟩) (.inl rfl) (.int .i64 (n : Int))
    simp only [List.setIfInBounds_toArray, List.set_cons_zero] at HBn3
    clear xn xg xt fn fg ft lbn lbg lbt HBn1 HBg1 HBt1 HG1 hK1
    generalize w1.setCell ⟨bn, 0, none⟩ (.int .i64 (n : Int)) = w3 at HBn3 HBg3 HBt3 HO3 hK3 ⊢
    obtain ⟨lbg, xg, fg⟩ := Blk.one HBg3.out
    obtain ⟨lbt, xt, ft⟩ := Blk.one HBt3.out
    have HT3 : Hid (strE.Slc w3 ta tc G) := Lib.hid (HGe.out ▸ (HT.out.keeps hK3 (fun hn x hx hs => HTo.out hn x hx (by rcases hs with h | h | h; (rw [h]; show bt ≤ bn; omega); (rw [h]; show bt ≤ bg; omega); (have h9 := (HG.out.lt _ h).1; show bt ≤ x.block; omega)))).head (n - 1))
    have HSG : Hid (strE.Slc w3 ga gc G) := by
      obtain ⟨a9, c9, h9, h10⟩ := HO3.out.slc
      simp only [Value.slice.injEq] at h9
      obtain ⟨rfl, -, rfl⟩ := h9
      exact Lib.hid h10
    have hcut := fun wx => run_head (P := Try.prog) (t := 22) (e := 9) (size := 1) Try.underlying22 (fun _ => by kernel_rfl) ta T.length tc (G.length) (by have := HT.out.1; omega) ((G.length : Int)) (by omega) wx
    have HEQ : Hid (∀ W, strE.Slc W (ga) (gc) (G) → strE.Slc W ta tc (G) → Calls Try.prog 10 #[.slice (ga) (G.length) (gc), .slice ta (G.length) tc] W fun e w' => e = .returned (.bool true) ∧ Below W.heap.size W w') := Lib.hid (fun W hW1 hW2 => by
      have h := equal_strs _ _ _ _ _ _ W hW1 hW2
      rw [decide_eq_true rfl] at h
      exact h)
    have q1 : decide (G.length ≤ T.length) = true := by simp; omega
    have q2 : decide (((G.length : Int) : Int) ≤ (T.length : Int)) = true := by simp; omega
    have q3 : IntKind.i64.wrap ((G.length : Int) + 1) = (G.length : Int) + 1 := IntWalk.i64_in _ (by omega)
    have q4 : ((n : Int) == (G.length : Int) + 1) = true := by simp; omega
    have q5 : (0 : Int) ≤ (G.length : Int) := by omega
    go_region_held3 (fun w' => w'.cell? ⟨bg, 0, none⟩ = some (.slice (ga) (G.length) (gc)) ∧ w'.cell? ⟨bt, 0, none⟩ = some (.slice ta T.length tc))
      (first | go_keep | exact ⟨by assumption, by assumption⟩)
      ((go_at_call 10; refine (HEQ.out _ (HSG.out.after (by repeat' (first | exact Below.refl _ _ | assumption | (with_reducible refine Below.alloc ?_ ?_ _) | (with_reducible refine below_drewN ?_ _) | (with_reducible refine Below.drew ?_) | (with_reducible refine Below.setCell ?_ ?_ _) | go_size))) (HT3.out.after (by repeat' (first | exact Below.refl _ _ | assumption | (with_reducible refine Below.alloc ?_ ?_ _) | (with_reducible refine below_drewN ?_ _) | (with_reducible refine Below.drew ?_) | (with_reducible refine Below.setCell ?_ ?_ _) | go_size)))).mono ?_; rintro e w4 ⟨rfl, hb4⟩; have HBg4 := Lib.hid (Blk.after HBg3.out.drew hb4); have HBt4 := Lib.hid (Blk.after HBt3.out.drew hb4); obtain ⟨-, xg4, -⟩ := Blk.one HBg4.out; obtain ⟨-, xt4, -⟩ := Blk.one HBt4.out))
    have hK4 : Keeps (tkS bn bg (.slice ga G.length gc)) w w4 := hK3.drew.trans (Keeps.of_below hb4)
    have HBn4 := Lib.hid (Blk.after HBn3.out.drew hb4)
    have HO4 := Lib.hid (HO3.out.after (Below.step (B := w3.heap.size) (Below.drew (Below.refl _ _)) hb4 (Nat.le_refl _)))
    go_wp2_with fail
    go_returns
    exact ⟨rfl, HBn4.out, _, HBg4.out, by rw [← HGe.out]; exact HO4.out, hK4, .inl rfl⟩

end Go.Proofs.Ytckjibjnplnfeaa
