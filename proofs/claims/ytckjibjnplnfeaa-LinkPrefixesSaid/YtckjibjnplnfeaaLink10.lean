/- The state of LinkPrefixes, and what each step does to it (plain laws). -/
import Derived.Test.YtckjibjnplnfeaaLink9
set_option linter.unusedVariables false
set_option linter.unusedSimpArgs false
namespace Go.Proofs.Ytckjibjnplnfeaa
open Go.RowKit
attribute [local go_sem ↓] Go.wp_at_zero Go.wp_at_succ

structure LFix (bt bs bn bg : Nat) (ta : Option Addr) (T : List ByteArray) : Prop where
  tout : Out T.length ta (fun k => bt ≤ k)
  o1 : bt < bs
  o2 : bs < bn
  o3 : bn < bg
  few : T.length ≤ 32
  small : ∀ t ∈ T, t.size ≤ 120
structure LSt (w : World) (bt bs bn bg : Nat) (ta : Option Addr) (tc : Nat) (T : List ByteArray) (n B : Nat) (vg : Value) (sa : Option Addr) (sc : Nat) : Prop where
  fbt : Blk w bt (.cells #[.slice ta T.length tc] 22)
  tx : strE.Slc w ta tc T
  fbn : Blk w bn (.cells #[.int .i64 (n : Int)] 3)
  fbg : Blk w bg (.cells #[vg] 22)
  fbs : Blk w bs (.cells #[.int .i64 (B : Int), .slice sa (T.drop (B - 1)).length sc] 26)
  gt : strE.Own w (bg + 1) 9 vg (T.take (n - 1))
  wt : strE.Slc w sa sc (T.drop (B - 1))
  wo : Out (T.drop (B - 1)).length sa (fun k => k = bs ∨ k = bn ∨ k = bg ∨ vg.ownBlock = some k)
theorem LSt.keeps {w w' : World} {bt bs bn bg : Nat} {ta : Option Addr} {tc : Nat} {T : List ByteArray} {n B : Nat} {vg : Value} {sa : Option Addr} {sc : Nat} {S : Nat → Prop} (hf : LFix bt bs bn bg ta T) (h : LSt w bt bs bn bg ta tc T n B vg sa sc) (hk : Keeps S w w') (h1 : ∀ k, S k → bg < k) (h2 : ∀ k, vg.ownBlock = some k → ¬ S k) (h3 : Out (T.drop (B - 1)).length sa S) : LSt w' bt bs bn bg ta tc T n B vg sa sc := by
  have p1 := hf.o1; have p2 := hf.o2; have p3 := hf.o3
  exact ⟨h.fbt.keeps hk (fun hs => by have := h1 _ hs; omega), h.tx.keeps hk (fun hn x hx hs => hf.tout hn x hx (by have := h1 _ hs; show bt ≤ x.block; omega)), h.fbn.keeps hk (fun hs => by have := h1 _ hs; omega), h.fbg.keeps hk (fun hs => by have := h1 _ hs; omega), h.fbs.keeps hk (fun hs => by have := h1 _ hs; omega), ownsRow_keeps h.gt hk h2, h.wt.keeps hk h3, h.wo⟩
theorem LSt.after {w w' : World} {bt bs bn bg : Nat} {ta : Option Addr} {tc : Nat} {T : List ByteArray} {n B : Nat} {vg : Value} {sa : Option Addr} {sc : Nat} (h : LSt w bt bs bn bg ta tc T n B vg sa sc) (hb : Below w.heap.size w w') : LSt w' bt bs bn bg ta tc T n B vg sa sc :=
  ⟨h.fbt.after hb, h.tx.after hb, h.fbn.after hb, h.fbg.after hb, h.fbs.after hb, h.gt.after hb, h.wt.after hb, h.wo⟩
theorem LSt.take {w w' : World} {bt bs bn bg : Nat} {ta : Option Addr} {tc : Nat} {T : List ByteArray} {n B n' : Nat} {vg : Value} {sa : Option Addr} {sc : Nat} {e : Ending} (hf : LFix bt bs bn bg ta T) (h : LSt w bt bs bn bg ta tc T n B vg sa sc) (ht : Tk w bn bg (bg + 1) T n' vg e w') :
    e = .returned (.bool true) ∧ Keeps (tkS bn bg vg) w w' ∧ ∃ vg', LSt w' bt bs bn bg ta tc T n' B vg' sa sc ∧ (vg'.ownBlock = vg.ownBlock ∨ ∀ k, vg'.ownBlock = some k → w.heap.size ≤ k) := by
  have p1 := hf.o1; have p2 := hf.o2; have p3 := hf.o3
  obtain ⟨he, h1, vg', h2, h3, hk, h5⟩ := ht
  refine ⟨he, hk, vg', ⟨h.fbt.keeps hk ?_, h.tx.keeps hk ?_, h1, h2, h.fbs.keeps hk ?_, h3, h.wt.keeps hk ?_, ?_⟩, h5⟩
  · rintro (hs | hs | hs)
    · omega
    · omega
    · have := (h.gt.lt _ hs).1; omega
  · intro hn x hx hs
    refine hf.tout hn x hx ?_
    show bt ≤ x.block
    rcases hs with hs | hs | hs
    · omega
    · omega
    · have := (h.gt.lt _ hs).1; omega
  · rintro (hs | hs | hs)
    · omega
    · omega
    · have := (h.gt.lt _ hs).1; omega
  · intro hn x hx hs
    refine h.wo hn x hx ?_
    rcases hs with hs | hs | hs
    · exact .inr (.inl hs)
    · exact .inr (.inr (.inl hs))
    · exact .inr (.inr (.inr hs))
  · intro hn x hx hs
    obtain ⟨b, off, ha, hlt, -⟩ := h.wt.row (by omega)
    rw [hx] at ha
    obtain rfl := Option.some.inj ha
    rcases hs with hs | hs | hs | hs
    · exact h.wo hn _ hx (.inl hs)
    · exact h.wo hn _ hx (.inr (.inl hs))
    · exact h.wo hn _ hx (.inr (.inr (.inl hs)))
    · rcases h5 with h5 | h5
      · exact h.wo hn _ hx (.inr (.inr (.inr (h5 ▸ hs))))
      · have := h5 _ hs
        simp at this hlt; omega
theorem heard_at {T : List ByteArray} {B o : Nat} (few : T.length ≤ 32) (small : ∀ t ∈ T, t.size ≤ 120) (hB1 : 1 ≤ B) (hB2 : B ≤ T.length + 1) (ho1 : 1 ≤ o) (ho2 : o ≤ T.length + 1) :
    heardE B (T.drop (B - 1)) o = 0 ∧ heardB B (T.drop (B - 1)) o = ((max B o : Nat) : Int) ∧ heardW B (T.drop (B - 1)) o = T.drop (max B o - 1) := by
  have hl : (T.drop (B - 1)).length = T.length - (B - 1) := List.length_drop
  have hc : lchk B (T.drop (B - 1)) = 0 := (lchk_zero _ _).2 ⟨by rw [hl]; omega, by omega, by rw [hl]; omega, fun t ht => small t (List.mem_of_mem_drop ht)⟩
  have hE : heardE B (T.drop (B - 1)) o = 0 := by
    unfold heardE; rw [hc, if_neg (by decide), hl, if_neg (by omega)]
  have hk : heardK B o = max B o - B := by unfold heardK; omega
  refine ⟨hE, ?_, ?_⟩
  · unfold heardB; rw [if_pos hE, hk]; omega
  · unfold heardW; rw [if_pos hE, hk, List.drop_drop]; congr 1; omega
theorem LSt.hear {w w' : World} {bt bs bn bg : Nat} {ta : Option Addr} {tc : Nat} {T : List ByteArray} {n B o : Nat} {vg : Value} {sa : Option Addr} {sc : Nat} {e : Ending} (hf : LFix bt bs bn bg ta T) (h : LSt w bt bs bn bg ta tc T n B vg sa sc) (hB1 : 1 ≤ B) (hB2 : B ≤ T.length + 1) (ho1 : 1 ≤ o) (ho2 : o ≤ T.length + 1)
    (ht : Hr w bs (heardB B (T.drop (B - 1)) o) (heardW B (T.drop (B - 1)) o) e w') :
    e = .returned (.bool true) ∧ Keeps (fun k => k = bs) w w' ∧ ∃ sa' sc', LSt w' bt bs bn bg ta tc T n (max B o) vg sa' sc' ∧ Out (T.drop (max B o - 1)).length sa' (fun k => k < w.heap.size) := by
  have p1 := hf.o1; have p2 := hf.o2; have p3 := hf.o3
  obtain ⟨he, sa', sc', h1, h2, hk, h3⟩ := ht
  obtain ⟨-, hb, hw⟩ := heard_at hf.few hf.small hB1 hB2 ho1 ho2
  rw [hb, hw] at h1
  rw [hw] at h2 h3
  refine ⟨he, hk, sa', sc', ⟨h.fbt.keeps hk (by omega), h.tx.keeps hk (fun hn x hx hs => hf.tout hn x hx (by show bt ≤ x.block; omega)), h.fbn.keeps hk (by omega), h.fbg.keeps hk (by omega), h1, ownsRow_keeps h.gt hk (fun k hk2 hs => by have := (h.gt.lt k hk2).1; omega), h2, fun hn x hx hs => h3 hn x hx ?_⟩, h3⟩
  show x.block < w.heap.size
  have l1 := h.fbs.lt; have l2 := h.fbn.lt; have l3 := h.fbg.lt
  rcases hs with hs | hs | hs | hs
  · omega
  · omega
  · omega
  · exact (h.gt.lt _ hs).2
theorem StrsOk.of_small {T : List ByteArray} (small : ∀ t ∈ T, t.size ≤ 120) (k : Nat) : StrsOk (T.drop k) := fun t ht => by
  have := small t (List.mem_of_mem_drop ht)
  unfold maxLen; omega
/- the whole state: with the numbers that were heard -/
structure LAll (w : World) (bt bs bn bg : Nat) (ta : Option Addr) (tc : Nat) (T : List ByteArray) (n B : Nat) (vold : Value) (old : List Int) (vg : Value) (sa : Option Addr) (sc : Nat) : Prop where
  st : LSt w bt bs bn bg ta tc T n B vg sa sc
  ow : intE.Own w (bg + 1) 3 vold old
  d1 : ∀ k, vold.ownBlock = some k → vg.ownBlock ≠ some k
  d2 : Out (T.drop (B - 1)).length sa (fun k => vold.ownBlock = some k)
  b1 : 1 ≤ B
  b2 : B ≤ n
  b3 : n ≤ T.length + 1
  all : ∀ o ∈ old, 1 ≤ o ∧ o ≤ (n : Int)
theorem LAll.after {w w' : World} {bt bs bn bg : Nat} {ta : Option Addr} {tc : Nat} {T : List ByteArray} {n B : Nat} {vold : Value} {old : List Int} {vg : Value} {sa : Option Addr} {sc : Nat} (h : LAll w bt bs bn bg ta tc T n B vold old vg sa sc) (hb : Below w.heap.size w w') : LAll w' bt bs bn bg ta tc T n B vold old vg sa sc :=
  ⟨h.st.after hb, h.ow.after hb, h.d1, h.d2, h.b1, h.b2, h.b3, h.all⟩
theorem LAll.take2 {w w' : World} {bt bs bn bg : Nat} {ta : Option Addr} {tc : Nat} {T : List ByteArray} {n B m : Nat} {vold : Value} {old : List Int} {vg : Value} {sa : Option Addr} {sc : Nat} {e : Ending} (hf : LFix bt bs bn bg ta T) (h : LAll w bt bs bn bg ta tc T n B vold old vg sa sc) (hm : m ≤ T.length)
    (ht : Tk w bn bg (bg + 1) T (if m = n then n + 1 else n) vg e w') :
    e = .returned (.bool true) ∧ Keeps (tkS bn bg vg) w w' ∧ ∃ vg', LAll w' bt bs bn bg ta tc T (if m = n then n + 1 else n) B vold old vg' sa sc ∧ (vg'.ownBlock = vg.ownBlock ∨ ∀ k, vg'.ownBlock = some k → w.heap.size ≤ k) := by
  obtain ⟨he, hk, vg', h1, h2⟩ := h.st.take hf ht
  refine ⟨he, hk, vg', ⟨h1, ownsRow_keeps h.ow hk (fun k hk2 hs => ?_), fun k hk2 hh => ?_, h.d2, h.b1, ?_, ?_, fun o ho => ?_⟩, h2⟩
  · have := (h.ow.lt k hk2).1
    have p3 := hf.o3
    rcases hs with hs | hs | hs
    · omega
    · omega
    · exact h.d1 k hk2 hs
  · rcases h2 with h2 | h2
    · exact h.d1 k hk2 (h2 ▸ hh)
    · have := h2 k hh
      have := (h.ow.lt k hk2).2
      omega
  · have := h.b2; split <;> omega
  · have := h.b3; split <;> omega
  · have := h.all o ho; split <;> omega
theorem LAll.take {w w' : World} {bt bs bn bg : Nat} {ta : Option Addr} {tc : Nat} {T : List ByteArray} {n B m : Nat} {vold : Value} {old : List Int} {vg : Value} {sa : Option Addr} {sc : Nat} {e : Ending} (hf : LFix bt bs bn bg ta T) (h : LAll w bt bs bn bg ta tc T n B vold old vg sa sc) (hm : m ≤ T.length)
    (ht : Tk w bn bg (bg + 1) T (if m = n then n + 1 else n) vg e w') :
    e = .returned (.bool true) ∧ Keeps (tkS bn bg vg) w w' ∧ ∃ vg', LAll w' bt bs bn bg ta tc T (if m = n then n + 1 else n) B vold old vg' sa sc := by
  obtain ⟨h1, h2, vg', h3, -⟩ := LAll.take2 hf h hm ht
  exact ⟨h1, h2, vg', h3⟩
theorem LAll.hear {w w' : World} {bt bs bn bg : Nat} {ta : Option Addr} {tc : Nat} {T : List ByteArray} {n B o : Nat} {vold : Value} {old : List Int} {vg : Value} {sa : Option Addr} {sc : Nat} {e : Ending} (hf : LFix bt bs bn bg ta T) (h : LAll w bt bs bn bg ta tc T n B vold old vg sa sc) (ho1 : 1 ≤ o) (ho2 : o ≤ n)
    (ht : Hr w bs (heardB B (T.drop (B - 1)) o) (heardW B (T.drop (B - 1)) o) e w') :
    e = .returned (.bool true) ∧ Keeps (fun k => k = bs) w w' ∧ ∃ sa' sc', LAll w' bt bs bn bg ta tc T n (max B o) vold old vg sa' sc' := by
  have b1 := h.b1; have b2 := h.b2; have b3 := h.b3
  have p2 := hf.o2; have p3 := hf.o3
  obtain ⟨he, hk, sa', sc', h1, h2⟩ := h.st.hear hf h.b1 (by omega) ho1 (by omega) ht
  refine ⟨he, hk, sa', sc', h1, ownsRow_keeps h.ow hk (fun k hk2 hs => by have := (h.ow.lt k hk2).1; omega), h.d1, fun hn x hx hs => h2 hn x hx (h.ow.lt _ hs).2, by omega, by omega, h.b3, h.all⟩
theorem LAll.push {w w' : World} {bt bs bn bg : Nat} {ta : Option Addr} {tc : Nat} {T : List ByteArray} {n B : Nat} {vold : Value} {old : List Int} {vg : Value} {sa : Option Addr} {sc g cap : Nat} (hf : LFix bt bs bn bg ta T) (h : LAll w bt bs bn bg ta tc T n B vold old vg sa sc)
    (hown : intE.Own w' (bg + 1) 3 (.slice (some ⟨g, 0, none⟩) (old.length + 1) cap) (old ++ [(n : Int)])) (hg : w.grownBy w' vold.ownBlock) (hat : vold.ownBlock = some g ∨ g = w.heap.size) :
    LAll w' bt bs bn bg ta tc T n B (.slice (some ⟨g, 0, none⟩) (old.length + 1) cap) (old ++ [(n : Int)]) vg sa sc := by
  have hk : Keeps (fun k => vold.ownBlock = some k) w w' := Keeps.of_grown hg (fun k hk => hk)
  refine ⟨h.st.keeps hf hk (fun k hk2 => by have := (h.ow.lt k hk2).1; omega) (fun k hk2 hs => h.d1 k hs hk2) h.d2, hown, fun k hk2 hh => ?_, fun hn x hx hs => ?_, h.b1, h.b2, h.b3, fun o ho => ?_⟩
  · simp only [Value.ownBlock, Option.some.injEq] at hk2
    subst hk2
    rcases hat with ha | ha
    · exact h.d1 g ha hh
    · have := (h.st.gt.lt g hh).2; omega
  · simp only [Value.ownBlock, Option.some.injEq] at hs
    obtain ⟨b, off, ha, hlt, -⟩ := h.st.wt.row (by omega)
    rw [hx] at ha
    obtain rfl := Option.some.inj ha
    simp only at hs hlt
    rcases hat with ha2 | ha2
    · exact h.d2 hn _ hx (by show vold.ownBlock = some b; rw [ha2, hs])
    · omega
  · rcases List.mem_append.1 ho with ho | ho
    · exact h.all o ho
    · simp at ho; subst ho
      have := h.b1; have := h.b2; omega
/- what Frames returns in this state -/
theorem frames_at {T : List ByteArray} {B : Nat} (few : T.length ≤ 32) (small : ∀ t ∈ T, t.size ≤ 120) (hB1 : 1 ≤ B) (hB2 : B ≤ T.length + 1) : lchk B (T.drop (B - 1)) = 0 ∧ (framesL B (T.drop (B - 1))).length = min 4 (T.length + 1 - B) ∧ ∀ i, i < (framesL B (T.drop (B - 1))).length → el (framesL B (T.drop (B - 1))) i = ⟨((B + i : Nat) : Int), el T (B + i - 1)⟩ := by
  have hl : (T.drop (B - 1)).length = T.length - (B - 1) := List.length_drop
  have hc : lchk B (T.drop (B - 1)) = 0 := (lchk_zero _ _).2 ⟨by rw [hl]; omega, by omega, by rw [hl]; omega, fun t ht => small t (List.mem_of_mem_drop ht)⟩
  have hlen : (framesL B (T.drop (B - 1))).length = min 4 (T.length + 1 - B) := by
    unfold framesL; rw [if_pos hc, framesTo_len, win, hl]; omega
  refine ⟨hc, hlen, fun i hi => ?_⟩
  unfold framesL at hi ⊢
  rw [if_pos hc] at hi ⊢
  rw [framesTo_len] at hi
  rw [framesTo_el hi, frm, el_drop]
  congr 2
  omega

end Go.Proofs.Ytckjibjnplnfeaa
