/- What a step of a pair does: messages that are delivered, lost, or delivered once more. -/
import Derived.Test.YtacdkldpnpjonaaHoStep
set_option linter.unusedVariables false
set_option linter.unusedSimpArgs false
namespace Go.Proofs.Ytacdkldpnpjonaa
open Go.RowKit
attribute [local go_sem ↓] Go.wp_at_zero Go.wp_at_succ

theorem flat_one (m : List (Bool × Int)) : ∀ u ∈ flat m, u.oneCell' = true := by
  intro u hu
  simp only [flat, List.mem_flatMap] at hu
  obtain ⟨x, -, hx⟩ := hu
  simp at hx
  rcases hx with rfl | rfl <;> rfl
theorem flatAt_one (m : List (Bool × Int)) : ∀ k, k < m.length * 2 → (flatAt m k).oneCell' = true := by
  intro k hk
  have h := flat_get m k hk
  exact flat_one m _ (List.mem_of_getElem? h)
theorem flat_cons (x : Bool × Int) (r : List (Bool × Int)) : flat (x :: r) = .bool x.1 :: .int .i64 x.2 :: flat r := rfl
theorem flat_two (m : List (Bool × Int)) : ∀ q x, m[q]? = some x → (flat m)[q * 2]? = some (.bool x.1) ∧ (flat m)[q * 2 + 1]? = some (.int .i64 x.2) := by
  induction m with
  | nil => intro q x h; simp at h
  | cons y r ih =>
    intro q x h
    cases q with
    | zero => simp at h; subst h; exact ⟨rfl, rfl⟩
    | succ q =>
      simp at h
      have := ih q x h
      rw [flat_cons, show (q + 1) * 2 = q * 2 + 1 + 1 by omega]
      exact ⟨by simpa using this.1, by simpa using this.2⟩
theorem flatAt_fst {m : List (Bool × Int)} {q : Nat} {xa : Bool} {xn : Int} (h : m[q]? = some (xa, xn)) : flatAt m (q * 2) = .bool xa := by
  unfold flatAt; rw [(flat_two m q _ h).1]; rfl
theorem flatAt_snd {m : List (Bool × Int)} {q : Nat} {xa : Bool} {xn : Int} (h : m[q]? = some (xa, xn)) : flatAt m (q * 2 + 1) = .int .i64 xn := by
  unfold flatAt; rw [(flat_two m q _ h).2]; rfl
theorem flat_range (m : List (Bool × Int)) : (List.range (m.length * 2)).map (flatAt m) = flat m := by
  apply List.ext_getElem?
  intro k
  rcases Nat.lt_or_ge k (m.length * 2) with h | h
  · rw [flat_get m k h]; simp [h]
  · rw [List.getElem?_eq_none (by simpa using h), List.getElem?_eq_none (by rw [flat_len]; exact h)]
theorem flat_app (a b : List (Bool × Int)) : flat (a ++ b) = flat a ++ flat b := by simp [flat]
theorem flat_take (m : List (Bool × Int)) : ∀ q, (flat m).take (q * 2) = flat (m.take q) := by
  induction m with
  | nil => intro q; simp [flat]
  | cons y r ih =>
    intro q
    cases q with
    | zero => simp [flat]
    | succ q => rw [flat_cons, show (q + 1) * 2 = q * 2 + 1 + 1 by omega]; simp [flat_cons, ih q]
theorem flat_drop (m : List (Bool × Int)) : ∀ q, (flat m).drop (q * 2) = flat (m.drop q) := by
  induction m with
  | nil => intro q; simp [flat]
  | cons y r ih =>
    intro q
    cases q with
    | zero => simp
    | succ q => rw [flat_cons, show (q + 1) * 2 = q * 2 + 1 + 1 by omega]; simp [ih q]
theorem flat_erase (m : List (Bool × Int)) (q : Nat) : (flat m).take (q * 2) ++ (flat m).drop ((q + 1) * 2) = flat (m.eraseIdx q) := by
  rw [flat_take, flat_drop, List.eraseIdx_eq_take_drop_succ, flat_app]

theorem ownsRow_base {w : World} {base base' : Nat} {E : TypeId} {size : Nat} {v : Value} {n : Nat} {xs : List Value} (h : w.ownsRow base E size v n xs) (hb : base' ≤ base) : w.ownsRow base' E size v n xs := by
  obtain ⟨h1, h2 | ⟨g, cap, cur, hv, hg, r⟩⟩ := h
  · exact ⟨h1, .inl h2⟩
  · exact ⟨h1, .inr ⟨g, cap, cur, hv, by omega, r⟩⟩

theorem after_delete0 {w w1 w2 : World} {A B : Obj} {b g1 cap1 q base : Nat} {s0 c0 s1 c1 : Int} {m0 m1 : List (Bool × Int)} {v0 v1 : Value}
    (hblk : Blk w b (.cells #[.int .i64 s0, .int .i64 c0, .int .i64 s1, .int .i64 c1, v0, v1] 39)) (ho0 : w.ownsRow (b + 1) 25 2 v0 m0.length (flat m0)) (ho1 : w.ownsRow (b + 1) 25 2 v1 m1.length (flat m1)) (_hd : v0.ownBlock = none ∨ v0.ownBlock ≠ v1.ownBlock)
    (hb1 : Below (((w.alloc A).alloc B).drew).heap.size (((w.alloc A).alloc B).drew) w1)
    (hown2 : w2.ownsRow base 25 2 (.slice (some ⟨g1, 0, none⟩) (m0.length - 1) cap1) (m0.length - 1) ((flat m0).take (q * 2) ++ (flat m0).drop ((q + 1) * 2)))
    (hgr2 : w1.grownBy w2 (some g1)) (hg : w.heap.size + 1 + 1 ≤ g1) (hql : q < m0.length) (hbs : w.heap.size ≤ base) :
    PairAt (w2.setCell ⟨b, 4, none⟩ (.slice (some ⟨g1, 0, none⟩) (m0.length - 1) cap1)) b s0 c0 s1 c1 (m0.eraseIdx q) (m1) ∧ Blk (w2.setCell ⟨b, 4, none⟩ (.slice (some ⟨g1, 0, none⟩) (m0.length - 1) cap1)) w.heap.size A ∧ Blk (w2.setCell ⟨b, 4, none⟩ (.slice (some ⟨g1, 0, none⟩) (m0.length - 1) cap1)) (w.heap.size + 1) B ∧ Below b w (w2.setCell ⟨b, 4, none⟩ (.slice (some ⟨g1, 0, none⟩) (m0.length - 1) cap1)) := by
  have hlt := hblk.lt
  have B1 := (((hblk.alloc A).alloc B).drew).after hb1
  have hB1 : Below b w w1 := below_mid (by go_grown) hb1 (by simp; omega)
  have hgr : ∀ (k : Nat) (o : Obj), k < g1 → Blk w1 k o → Blk w2 k o := fun k o hk hb => (hgr2.block k hb.lt (by simp; omega)).trans hb
  refine ⟨⟨(.slice (some ⟨g1, 0, none⟩) (m0.length - 1) cap1), v1, (hgr b _ (by omega) B1).set 4 _, (by
      have h := ownsRow_setCell_below (a := ⟨b, 4, none⟩) (ownsRow_base hown2 (show b + 1 ≤ base from by omega)) (Nat.lt_succ_self b) (.slice (some ⟨g1, 0, none⟩) (m0.length - 1) cap1)
      rw [flat_erase] at h
      rw [List.length_eraseIdx, if_pos hql]
      exact h), (ownsRow_setCell_below (a := ⟨b, 4, none⟩) ((ownsRow_after ((ho1.alloc _).alloc _).drew hb1).kept hgr2 (.inr (fun hh => by
      have := (ho1.lt g1 hh).2; omega))) (Nat.lt_succ_self b) (.slice (some ⟨g1, 0, none⟩) (m0.length - 1) cap1)), (by
      right; intro hh
      have := (ho1.lt g1 hh.symm).2; omega)⟩, Blk.other (hgr _ _ (by omega) ((((Blk.new w A).alloc B).drew).after hb1)) (by simp; omega) _, Blk.other (hgr _ _ (by omega) (((Blk.new1 w A B).drew).after hb1)) (by simp; omega) _, ?_⟩
  exact (hB1.grown hgr2 (by have := B1.lt; omega) (by intro k hk; simp at hk; omega)).setCell (Nat.le_refl _) _
def Heard0 (w : World) (b : Nat) (r : HR) (s0 c0 s1 c1 : Int) (m0 m1 : List (Bool × Int)) (e : Ending) (w' : World) : Prop :=
  if r.er = 0 then Stepped w b true r.st r.ct s1 c1 m0 (if r.is = true then sendM m1 (r.ak, r.nm) else m1) e w' else Stepped w b false s0 c0 s1 c1 m0 m1 e w'
theorem heard0_ok {w : World} {b : Nat} {r : HR} {s0 c0 s1 c1 : Int} {m0 m1 : List (Bool × Int)} {e : Ending} {w' : World} (h : r.er = 0) (hs : Stepped w b true r.st r.ct s1 c1 m0 (if r.is = true then sendM m1 (r.ak, r.nm) else m1) e w') : Heard0 w b r s0 c0 s1 c1 m0 m1 e w' := by
  unfold Heard0; rw [if_pos h]; exact hs
theorem heard0_err {w : World} {b : Nat} {r : HR} {s0 c0 s1 c1 : Int} {m0 m1 : List (Bool × Int)} {e : Ending} {w' : World} (h : r.er ≠ 0) (hs : Stepped w b false s0 c0 s1 c1 m0 m1 e w') : Heard0 w b r s0 c0 s1 c1 m0 m1 e w' := by
  unfold Heard0; rw [if_neg h]; exact hs

theorem after_delete1 {w w1 w2 : World} {A B : Obj} {b g1 cap1 q base : Nat} {s0 c0 s1 c1 : Int} {m0 m1 : List (Bool × Int)} {v0 v1 : Value}
    (hblk : Blk w b (.cells #[.int .i64 s0, .int .i64 c0, .int .i64 s1, .int .i64 c1, v0, v1] 39)) (ho0 : w.ownsRow (b + 1) 25 2 v0 m0.length (flat m0)) (ho1 : w.ownsRow (b + 1) 25 2 v1 m1.length (flat m1)) (_hd : v0.ownBlock = none ∨ v0.ownBlock ≠ v1.ownBlock)
    (hb1 : Below (((w.alloc A).alloc B).drew).heap.size (((w.alloc A).alloc B).drew) w1)
    (hown2 : w2.ownsRow base 25 2 (.slice (some ⟨g1, 0, none⟩) (m1.length - 1) cap1) (m1.length - 1) ((flat m1).take (q * 2) ++ (flat m1).drop ((q + 1) * 2)))
    (hgr2 : w1.grownBy w2 (some g1)) (hg : w.heap.size + 1 + 1 ≤ g1) (hql : q < m1.length) (hbs : w.heap.size ≤ base) :
    PairAt (w2.setCell ⟨b, 5, none⟩ (.slice (some ⟨g1, 0, none⟩) (m1.length - 1) cap1)) b s0 c0 s1 c1 (m0) (m1.eraseIdx q) ∧ Blk (w2.setCell ⟨b, 5, none⟩ (.slice (some ⟨g1, 0, none⟩) (m1.length - 1) cap1)) w.heap.size A ∧ Blk (w2.setCell ⟨b, 5, none⟩ (.slice (some ⟨g1, 0, none⟩) (m1.length - 1) cap1)) (w.heap.size + 1) B ∧ Below b w (w2.setCell ⟨b, 5, none⟩ (.slice (some ⟨g1, 0, none⟩) (m1.length - 1) cap1)) := by
  have hlt := hblk.lt
  have B1 := (((hblk.alloc A).alloc B).drew).after hb1
  have hB1 : Below b w w1 := below_mid (by go_grown) hb1 (by simp; omega)
  have hgr : ∀ (k : Nat) (o : Obj), k < g1 → Blk w1 k o → Blk w2 k o := fun k o hk hb => (hgr2.block k hb.lt (by simp; omega)).trans hb
  refine ⟨⟨v0, (.slice (some ⟨g1, 0, none⟩) (m1.length - 1) cap1), (hgr b _ (by omega) B1).set 5 _, (ownsRow_setCell_below (a := ⟨b, 5, none⟩) ((ownsRow_after ((ho0.alloc _).alloc _).drew hb1).kept hgr2 (.inr (fun hh => by
      have := (ho0.lt g1 hh).2; omega))) (Nat.lt_succ_self b) (.slice (some ⟨g1, 0, none⟩) (m1.length - 1) cap1)), (by
      have h := ownsRow_setCell_below (a := ⟨b, 5, none⟩) (ownsRow_base hown2 (show b + 1 ≤ base from by omega)) (Nat.lt_succ_self b) (.slice (some ⟨g1, 0, none⟩) (m1.length - 1) cap1)
      rw [flat_erase] at h
      rw [List.length_eraseIdx, if_pos hql]
      exact h), (by
      right; intro hh
      have := (ho0.lt g1 hh).2; omega)⟩, Blk.other (hgr _ _ (by omega) ((((Blk.new w A).alloc B).drew).after hb1)) (by simp; omega) _, Blk.other (hgr _ _ (by omega) (((Blk.new1 w A B).drew).after hb1)) (by simp; omega) _, ?_⟩
  exact (hB1.grown hgr2 (by have := B1.lt; omega) (by intro k hk; simp at hk; omega)).setCell (Nat.le_refl _) _
def Heard1 (w : World) (b : Nat) (r : HR) (s0 c0 s1 c1 : Int) (m0 m1 : List (Bool × Int)) (e : Ending) (w' : World) : Prop :=
  if r.er = 0 then Stepped w b true s0 c0 r.st r.ct (if r.is = true then sendM m0 (r.ak, r.nm) else m0) m1 e w' else Stepped w b false s0 c0 s1 c1 m0 m1 e w'
theorem heard1_ok {w : World} {b : Nat} {r : HR} {s0 c0 s1 c1 : Int} {m0 m1 : List (Bool × Int)} {e : Ending} {w' : World} (h : r.er = 0) (hs : Stepped w b true s0 c0 r.st r.ct (if r.is = true then sendM m0 (r.ak, r.nm) else m0) m1 e w') : Heard1 w b r s0 c0 s1 c1 m0 m1 e w' := by
  unfold Heard1; rw [if_pos h]; exact hs
theorem heard1_err {w : World} {b : Nat} {r : HR} {s0 c0 s1 c1 : Int} {m0 m1 : List (Bool × Int)} {e : Ending} {w' : World} (h : r.er ≠ 0) (hs : Stepped w b false s0 c0 s1 c1 m0 m1 e w') : Heard1 w b r s0 c0 s1 c1 m0 m1 e w' := by
  unfold Heard1; rw [if_neg h]; exact hs

set_option maxRecDepth 100000 in
set_option maxHeartbeats 400000 in
theorem stepE20_any (b : Nat) (s0 c0 s1 c1 : Int) (m0 m1 : List (Bool × Int)) (i : Int) (w : World) (hP : PairAt w b s0 c0 s1 c1 m0 m1) (hm : m0.length = 0) :
    Calls Try.prog 11 #[.pointer (some ⟨b, 0, none⟩), .int .i64 2, .int .i64 0, .int .i64 i] w (Stepped w b true s0 c0 s1 c1 m0 m1) := by
  obtain ⟨v0, v1, hblk, ho0, ho1, hdis⟩ := hP
  obtain ⟨a0, k0, e0, -, -, -, -⟩ := ownsRow_at ho0 _ (flat_get m0)
  obtain ⟨a1, k1, e1, -, -, -, -⟩ := ownsRow_at ho1 _ (flat_get m1)
  subst e0 e1
  have hlt := hblk.lt
  have x0 := hblk.get 0 _ rfl
  have x1 := hblk.get 1 _ rfl
  have x4 := hblk.get 4 _ rfl
  have HBlk := Lib.hid hblk; clear hblk
  have HO0 := Lib.hid ho0; have HO1 := Lib.hid ho1; clear ho0 ho1
  have HD := Lib.hid hdis; clear hdis
  have hd : ((m0.length : Int) == 0) = true := by rw [hm]; rfl
  have HM := Lib.hid hm; clear hm
  go_enter Try.func11, Try.ntmps11
  go_wp2_with fail
  go_returns
  exact ⟨rfl, ⟨_, _, HBlk.out.alloc _, HO0.out.alloc _, HO1.out.alloc _, HD.out⟩, by go_grown⟩

set_option maxRecDepth 100000 in
set_option maxHeartbeats 400000 in
theorem stepE30_any (b : Nat) (s0 c0 s1 c1 : Int) (m0 m1 : List (Bool × Int)) (i : Int) (w : World) (hP : PairAt w b s0 c0 s1 c1 m0 m1) (hm : m0.length = 0) :
    Calls Try.prog 11 #[.pointer (some ⟨b, 0, none⟩), .int .i64 3, .int .i64 0, .int .i64 i] w (Stepped w b true s0 c0 s1 c1 m0 m1) := by
  obtain ⟨v0, v1, hblk, ho0, ho1, hdis⟩ := hP
  obtain ⟨a0, k0, e0, -, -, -, -⟩ := ownsRow_at ho0 _ (flat_get m0)
  obtain ⟨a1, k1, e1, -, -, -, -⟩ := ownsRow_at ho1 _ (flat_get m1)
  subst e0 e1
  have hlt := hblk.lt
  have x0 := hblk.get 0 _ rfl
  have x1 := hblk.get 1 _ rfl
  have x4 := hblk.get 4 _ rfl
  have HBlk := Lib.hid hblk; clear hblk
  have HO0 := Lib.hid ho0; have HO1 := Lib.hid ho1; clear ho0 ho1
  have HD := Lib.hid hdis; clear hdis
  have hd : ((m0.length : Int) == 0) = true := by rw [hm]; rfl
  have HM := Lib.hid hm; clear hm
  go_enter Try.func11, Try.ntmps11
  go_wp2_with fail
  go_returns
  exact ⟨rfl, ⟨_, _, HBlk.out.alloc _, HO0.out.alloc _, HO1.out.alloc _, HD.out⟩, by go_grown⟩

set_option maxRecDepth 100000 in
set_option maxHeartbeats 400000 in
theorem stepE40_any (b : Nat) (s0 c0 s1 c1 : Int) (m0 m1 : List (Bool × Int)) (i : Int) (w : World) (hP : PairAt w b s0 c0 s1 c1 m0 m1) (hm : m0.length = 0) :
    Calls Try.prog 11 #[.pointer (some ⟨b, 0, none⟩), .int .i64 4, .int .i64 0, .int .i64 i] w (Stepped w b true s0 c0 s1 c1 m0 m1) := by
  obtain ⟨v0, v1, hblk, ho0, ho1, hdis⟩ := hP
  obtain ⟨a0, k0, e0, -, -, -, -⟩ := ownsRow_at ho0 _ (flat_get m0)
  obtain ⟨a1, k1, e1, -, -, -, -⟩ := ownsRow_at ho1 _ (flat_get m1)
  subst e0 e1
  have hlt := hblk.lt
  have x0 := hblk.get 0 _ rfl
  have x1 := hblk.get 1 _ rfl
  have x4 := hblk.get 4 _ rfl
  have HBlk := Lib.hid hblk; clear hblk
  have HO0 := Lib.hid ho0; have HO1 := Lib.hid ho1; clear ho0 ho1
  have HD := Lib.hid hdis; clear hdis
  have hd : ((m0.length : Int) == 0) = true := by rw [hm]; rfl
  have HM := Lib.hid hm; clear hm
  go_enter Try.func11, Try.ntmps11
  go_wp2_with fail
  go_returns
  exact ⟨rfl, ⟨_, _, HBlk.out.alloc _, HO0.out.alloc _, HO1.out.alloc _, HD.out⟩, by go_grown⟩

set_option maxRecDepth 100000 in
set_option maxHeartbeats 400000 in
theorem stepE21_any (b : Nat) (s0 c0 s1 c1 : Int) (m0 m1 : List (Bool × Int)) (i : Int) (w : World) (hP : PairAt w b s0 c0 s1 c1 m0 m1) (hm : m1.length = 0) :
    Calls Try.prog 11 #[.pointer (some ⟨b, 0, none⟩), .int .i64 2, .int .i64 1, .int .i64 i] w (Stepped w b true s0 c0 s1 c1 m0 m1) := by
  obtain ⟨v0, v1, hblk, ho0, ho1, hdis⟩ := hP
  obtain ⟨a0, k0, e0, -, -, -, -⟩ := ownsRow_at ho0 _ (flat_get m0)
  obtain ⟨a1, k1, e1, -, -, -, -⟩ := ownsRow_at ho1 _ (flat_get m1)
  subst e0 e1
  have hlt := hblk.lt
  have x2 := hblk.get 2 _ rfl
  have x3 := hblk.get 3 _ rfl
  have x5 := hblk.get 5 _ rfl
  have HBlk := Lib.hid hblk; clear hblk
  have HO0 := Lib.hid ho0; have HO1 := Lib.hid ho1; clear ho0 ho1
  have HD := Lib.hid hdis; clear hdis
  have hd : ((m1.length : Int) == 0) = true := by rw [hm]; rfl
  have HM := Lib.hid hm; clear hm
  go_enter Try.func11, Try.ntmps11
  go_wp2_with fail
  go_returns
  exact ⟨rfl, ⟨_, _, HBlk.out.alloc _, HO0.out.alloc _, HO1.out.alloc _, HD.out⟩, by go_grown⟩

set_option maxRecDepth 100000 in
set_option maxHeartbeats 400000 in
theorem stepE31_any (b : Nat) (s0 c0 s1 c1 : Int) (m0 m1 : List (Bool × Int)) (i : Int) (w : World) (hP : PairAt w b s0 c0 s1 c1 m0 m1) (hm : m1.length = 0) :
    Calls Try.prog 11 #[.pointer (some ⟨b, 0, none⟩), .int .i64 3, .int .i64 1, .int .i64 i] w (Stepped w b true s0 c0 s1 c1 m0 m1) := by
  obtain ⟨v0, v1, hblk, ho0, ho1, hdis⟩ := hP
  obtain ⟨a0, k0, e0, -, -, -, -⟩ := ownsRow_at ho0 _ (flat_get m0)
  obtain ⟨a1, k1, e1, -, -, -, -⟩ := ownsRow_at ho1 _ (flat_get m1)
  subst e0 e1
  have hlt := hblk.lt
  have x2 := hblk.get 2 _ rfl
  have x3 := hblk.get 3 _ rfl
  have x5 := hblk.get 5 _ rfl
  have HBlk := Lib.hid hblk; clear hblk
  have HO0 := Lib.hid ho0; have HO1 := Lib.hid ho1; clear ho0 ho1
  have HD := Lib.hid hdis; clear hdis
  have hd : ((m1.length : Int) == 0) = true := by rw [hm]; rfl
  have HM := Lib.hid hm; clear hm
  go_enter Try.func11, Try.ntmps11
  go_wp2_with fail
  go_returns
  exact ⟨rfl, ⟨_, _, HBlk.out.alloc _, HO0.out.alloc _, HO1.out.alloc _, HD.out⟩, by go_grown⟩

set_option maxRecDepth 100000 in
set_option maxHeartbeats 400000 in
theorem stepE41_any (b : Nat) (s0 c0 s1 c1 : Int) (m0 m1 : List (Bool × Int)) (i : Int) (w : World) (hP : PairAt w b s0 c0 s1 c1 m0 m1) (hm : m1.length = 0) :
    Calls Try.prog 11 #[.pointer (some ⟨b, 0, none⟩), .int .i64 4, .int .i64 1, .int .i64 i] w (Stepped w b true s0 c0 s1 c1 m0 m1) := by
  obtain ⟨v0, v1, hblk, ho0, ho1, hdis⟩ := hP
  obtain ⟨a0, k0, e0, -, -, -, -⟩ := ownsRow_at ho0 _ (flat_get m0)
  obtain ⟨a1, k1, e1, -, -, -, -⟩ := ownsRow_at ho1 _ (flat_get m1)
  subst e0 e1
  have hlt := hblk.lt
  have x2 := hblk.get 2 _ rfl
  have x3 := hblk.get 3 _ rfl
  have x5 := hblk.get 5 _ rfl
  have HBlk := Lib.hid hblk; clear hblk
  have HO0 := Lib.hid ho0; have HO1 := Lib.hid ho1; clear ho0 ho1
  have HD := Lib.hid hdis; clear hdis
  have hd : ((m1.length : Int) == 0) = true := by rw [hm]; rfl
  have HM := Lib.hid hm; clear hm
  go_enter Try.func11, Try.ntmps11
  go_wp2_with fail
  go_returns
  exact ⟨rfl, ⟨_, _, HBlk.out.alloc _, HO0.out.alloc _, HO1.out.alloc _, HD.out⟩, by go_grown⟩

set_option maxRecDepth 100000 in
set_option maxHeartbeats 2000000 in
theorem step20_get (b : Nat) (s0 c0 s1 c1 : Int) (m0 m1 : List (Bool × Int)) (i : Int) (q : Nat) (xa : Bool) (xn : Int) (w : World) (hP : PairAt w b s0 c0 s1 c1 m0 m1) (hq : pickv i m0.length = q) (hx : m0[q]? = some (xa, xn)) (hm : m0.length ≤ 40) :
    Calls Try.prog 11 #[.pointer (some ⟨b, 0, none⟩), .int .i64 2, .int .i64 0, .int .i64 i] w (Heard0 w b (hear s0 c0 xn xa) s0 c0 s1 c1 (m0.eraseIdx q) m1) := by
  have hql : q < m0.length := (List.getElem?_eq_some_iff.1 hx).1
  obtain ⟨v0, v1, hblk, ho0, ho1, hdis⟩ := hP
  obtain ⟨g, k0, e0, hg1, hg2⟩ := ho0.form (by omega)
  obtain ⟨a1, k1, e1, -, -, -, -⟩ := ownsRow_at ho1 _ (flat_get m1)
  obtain ⟨a', k', e', hk1, hk2, -, hrow⟩ := ownsRow_at ho0 _ (flat_get m0)
  subst e0 e1
  obtain ⟨rfl, -, rfl⟩ : some ⟨g, 0, none⟩ = a' ∧ True ∧ k0 = k' := by simpa using e'
  clear e'
  obtain ⟨g', off', he', -, hcell⟩ := hrow (by omega)
  obtain ⟨rfl, rfl⟩ : g = g' ∧ 0 = off' := by simpa using he'
  clear he'
  have cx0 := hcell (q * 2) (by omega)
  have cx1 := hcell (q * 2 + 1) (by omega)
  rw [flatAt_fst hx] at cx0
  rw [flatAt_snd hx] at cx1
  rw [Nat.zero_add] at cx0 cx1
  have hcl := fun wx hR' => clone_msg (some ⟨g, 0, none⟩) m0.length k0 (flatAt m0) wx (by unfold maxLen; omega) (by omega) (by simp) hR' (flatAt_one m0)
  have HCL := Lib.hid hcl; have HRow := Lib.hid hrow; clear hcl hrow hcell
  have hlt := hblk.lt
  have x0 := hblk.get 0 _ rfl
  have x1 := hblk.get 1 _ rfl
  have x4 := hblk.get 4 _ rfl
  have y4 := hblk.free 4
  have HBlk := Lib.hid hblk; clear hblk
  have HO0 := Lib.hid ho0; have HO1 := Lib.hid ho1; clear ho0 ho1
  have HD := Lib.hid hdis; clear hdis
  have hd : ((m0.length : Int) == 0) = false := by simp; intro h; rw [h] at hql; simp at hql
  have hl0 : (0 : Int) < (m0.length : Int) := by omega
  have i1 : (0 : Int) ≤ (q : Int) := by omega
  have i2 : (q : Int) < (m0.length : Int) := by omega
  have i3 : IntKind.i64.wrap ((q : Int) + 1) = (q : Int) + 1 := IntWalk.i64_in _ (by omega)
  have HX := Lib.hid hx; clear hx
  have HQ := Lib.hid hq; clear hq
  go_enter Try.func11, Try.ntmps11
  go_wp2_with fail
  refine (pick_any _ _ _ (by omega) (by omega)).mono ?_
  rintro e w0 ⟨rfl, rfl⟩
  rw [HQ.out]
  go_wp2_with fail
  go_region_with (first
    | (go_at_call 21; refine (HCL.out _ (HRow.out.below (B := w.heap.size) (by go_grown) (Nat.le_refl _))).mono ?_; rintro e w1 ⟨v, rfl, hown, hb1, -⟩; obtain ⟨g1, cap1, rfl, hg3, hg4⟩ := hown.form (by omega); rw [flat_range] at hown; have hg5 : w.heap.size + 1 + 1 ≤ g1 := Nat.le_trans (by simp) hg3; have B1 := Lib.hid ((((HBlk.out.alloc _).alloc _).drew).after hb1); have P1 := Lib.hid (ownsRow_after ((HO1.out.alloc _).alloc _).drew hb1); have hB1 : Below b w w1 := below_mid (by go_grown) hb1 (by simp; omega))
    | (go_at_call 20; refine (delete_msg g1 _ cap1 q _ _ _ hown hql (flat_one m0)).mono ?_; rintro e w2 ⟨rfl, hown2, hgr2, hsz2⟩; have z1 := (hgr2.cell_far ⟨b, 4, none⟩ (by exact B1.out.lt) (by simp; omega)).trans (B1.out.get 4 _ rfl); have z2 := (hgr2.frozen_far ⟨b, 4, none⟩ (by exact B1.out.lt) (by simp; omega)).trans (B1.out.free 4)))
  have key := after_delete0 HBlk.out HO0.out HO1.out HD.out hb1 hown2 hgr2 hg5 hql (by simp; omega)
  generalize w2.setCell ⟨b, 4, none⟩ (.slice (some ⟨g1, 0, none⟩) (m0.length - 1) cap1) = W3 at key ⊢
  clear z1 z2 hown2 hgr2 hsz2 B1 P1 hB1 hg5 hown hb1 hg3 hg4
  obtain ⟨hp3, Bs, Bm, hB3⟩ := key
  clear HBlk HO0 HO1 HD HCL HRow x0 x1 x4 y4 cx0 cx1
  have hz3 := Bs.lt
  obtain ⟨v0, v1, hblk, ho0, ho1, hdis⟩ := hp3
  obtain ⟨ls, cs0, cs1, -, -⟩ := Bs.two
  obtain ⟨lm, cm0, cm1, -, -⟩ := Bm.two
  have hl3 := hblk.lt
  have HBlk := Lib.hid hblk; clear hblk Bs Bm
  have HO0 := Lib.hid ho0; have HO1 := Lib.hid ho1; clear ho0 ho1
  have HD := Lib.hid hdis; clear hdis
  generalize hh : hear s0 c0 xn xa = r
  obtain ⟨rs, rc, ra, rn, ri, re⟩ := r
  have HH := Lib.hid hh; clear hh
  go_wp2_with fail
  refine (hear_any _ _ _ _ _).mono ?_
  rintro e w4 ⟨rfl, hb4⟩
  rw [HH.out]; unfold HR.val; simp only []
  have B4 := Lib.hid (HBlk.out.after hb4)
  have P0 := Lib.hid (ownsRow_after HO0.out hb4)
  have P1 := Lib.hid (ownsRow_after HO1.out hb4)
  have lt4 := B4.out.lt
  have u0 := B4.out.get 0 _ rfl
  have u1 := B4.out.get 1 _ rfl
  have f0 := B4.out.free 0
  have f1 := B4.out.free 1
  have hB4 : Below b w w4 := below_mid hB3 hb4 (by omega)
  clear hb4 HBlk HO0 HO1
  by_cases he : re = 0
  · subst he
    cases ri with
    | false =>
      go_wp2_with fail
      go_region
      go_wp2_with fail
      go_returns
      rw [HH.out]
      refine heard0_ok rfl ⟨rfl, ⟨_, _, (((Blk.set (Blk.set B4.out 0 _) 1 _).alloc _).alloc _).drew, (((ownsRow_setCell_below (ownsRow_setCell_below P0.out (Nat.lt_succ_self b) _) (Nat.lt_succ_self b) _).alloc _).alloc _).drew, (((ownsRow_setCell_below (ownsRow_setCell_below P1.out (Nat.lt_succ_self b) _) (Nat.lt_succ_self b) _).alloc _).alloc _).drew, HD.out⟩, by go_grown⟩
    | true =>
      go_wp2_with fail
      go_region
      go_wp2_with fail
      refine (send0_any b rs rc s1 c1 (m0.eraseIdx q) m1 _ _ _ ?_).mono ?_
      · exact ⟨_, _, (((Blk.set (Blk.set B4.out 0 _) 1 _).alloc _).alloc _).drew, (((ownsRow_setCell_below (ownsRow_setCell_below P0.out (Nat.lt_succ_self b) _) (Nat.lt_succ_self b) _).alloc _).alloc _).drew, (((ownsRow_setCell_below (ownsRow_setCell_below P1.out (Nat.lt_succ_self b) _) (Nat.lt_succ_self b) _).alloc _).alloc _).drew, HD.out⟩
      rintro e w5 ⟨rfl, hp, hb5⟩
      have HP := Lib.hid hp; clear hp
      have hB5 : Below b w w5 := Below.trans (by go_grown) hb5
      clear hb5
      go_wp2_with fail
      go_returns
      rw [HH.out]
      exact heard0_ok rfl ⟨rfl, by rw [sendM_if, sendM_if'] at HP; exact HP.out, hB5⟩
  · have hne : (re != 0) = true := by simpa using he
    have HE := Lib.hid he; clear he
    go_wp2_with fail
    go_returns
    rw [HH.out]
    exact heard0_err HE.out ⟨rfl, ⟨_, _, (B4.out.alloc _).alloc _, (P0.out.alloc _).alloc _, (P1.out.alloc _).alloc _, HD.out⟩, by go_grown⟩

set_option maxRecDepth 100000 in
set_option maxHeartbeats 2000000 in
theorem step30_get (b : Nat) (s0 c0 s1 c1 : Int) (m0 m1 : List (Bool × Int)) (i : Int) (q : Nat) (xa : Bool) (xn : Int) (w : World) (hP : PairAt w b s0 c0 s1 c1 m0 m1) (hq : pickv i m0.length = q) (hx : m0[q]? = some (xa, xn)) (hm : m0.length ≤ 40) :
    Calls Try.prog 11 #[.pointer (some ⟨b, 0, none⟩), .int .i64 3, .int .i64 0, .int .i64 i] w (Stepped w b true s0 c0 s1 c1 (m0.eraseIdx q) m1) := by
  have hql : q < m0.length := (List.getElem?_eq_some_iff.1 hx).1
  obtain ⟨v0, v1, hblk, ho0, ho1, hdis⟩ := hP
  obtain ⟨g, k0, e0, hg1, hg2⟩ := ho0.form (by omega)
  obtain ⟨a1, k1, e1, -, -, -, -⟩ := ownsRow_at ho1 _ (flat_get m1)
  obtain ⟨a', k', e', hk1, hk2, -, hrow⟩ := ownsRow_at ho0 _ (flat_get m0)
  subst e0 e1
  obtain ⟨rfl, -, rfl⟩ : some ⟨g, 0, none⟩ = a' ∧ True ∧ k0 = k' := by simpa using e'
  clear e'
  obtain ⟨g', off', he', -, hcell⟩ := hrow (by omega)
  obtain ⟨rfl, rfl⟩ : g = g' ∧ 0 = off' := by simpa using he'
  clear he'
  have cx0 := hcell (q * 2) (by omega)
  have cx1 := hcell (q * 2 + 1) (by omega)
  rw [flatAt_fst hx] at cx0
  rw [flatAt_snd hx] at cx1
  rw [Nat.zero_add] at cx0 cx1
  have hcl := fun wx hR' => clone_msg (some ⟨g, 0, none⟩) m0.length k0 (flatAt m0) wx (by unfold maxLen; omega) (by omega) (by simp) hR' (flatAt_one m0)
  have HCL := Lib.hid hcl; have HRow := Lib.hid hrow; clear hcl hrow hcell
  have hlt := hblk.lt
  have x0 := hblk.get 0 _ rfl
  have x1 := hblk.get 1 _ rfl
  have x4 := hblk.get 4 _ rfl
  have y4 := hblk.free 4
  have HBlk := Lib.hid hblk; clear hblk
  have HO0 := Lib.hid ho0; have HO1 := Lib.hid ho1; clear ho0 ho1
  have HD := Lib.hid hdis; clear hdis
  have hd : ((m0.length : Int) == 0) = false := by simp; intro h; rw [h] at hql; simp at hql
  have hl0 : (0 : Int) < (m0.length : Int) := by omega
  have i1 : (0 : Int) ≤ (q : Int) := by omega
  have i2 : (q : Int) < (m0.length : Int) := by omega
  have i3 : IntKind.i64.wrap ((q : Int) + 1) = (q : Int) + 1 := IntWalk.i64_in _ (by omega)
  have HX := Lib.hid hx; clear hx
  have HQ := Lib.hid hq; clear hq
  go_enter Try.func11, Try.ntmps11
  go_wp2_with fail
  refine (pick_any _ _ _ (by omega) (by omega)).mono ?_
  rintro e w0 ⟨rfl, rfl⟩
  rw [HQ.out]
  go_wp2_with fail
  go_region_with (first
    | (go_at_call 21; refine (HCL.out _ (HRow.out.below (B := w.heap.size) (by go_grown) (Nat.le_refl _))).mono ?_; rintro e w1 ⟨v, rfl, hown, hb1, -⟩; obtain ⟨g1, cap1, rfl, hg3, hg4⟩ := hown.form (by omega); rw [flat_range] at hown; have hg5 : w.heap.size + 1 + 1 ≤ g1 := Nat.le_trans (by simp) hg3; have B1 := Lib.hid ((((HBlk.out.alloc _).alloc _).drew).after hb1); have P1 := Lib.hid (ownsRow_after ((HO1.out.alloc _).alloc _).drew hb1); have hB1 : Below b w w1 := below_mid (by go_grown) hb1 (by simp; omega))
    | (go_at_call 20; refine (delete_msg g1 _ cap1 q _ _ _ hown hql (flat_one m0)).mono ?_; rintro e w2 ⟨rfl, hown2, hgr2, hsz2⟩; have z1 := (hgr2.cell_far ⟨b, 4, none⟩ (by exact B1.out.lt) (by simp; omega)).trans (B1.out.get 4 _ rfl); have z2 := (hgr2.frozen_far ⟨b, 4, none⟩ (by exact B1.out.lt) (by simp; omega)).trans (B1.out.free 4)))
  have key := after_delete0 HBlk.out HO0.out HO1.out HD.out hb1 hown2 hgr2 hg5 hql (by simp; omega)
  generalize w2.setCell ⟨b, 4, none⟩ (.slice (some ⟨g1, 0, none⟩) (m0.length - 1) cap1) = W3 at key ⊢
  clear z1 z2 hown2 hgr2 hsz2 B1 P1 hB1 hg5 hown hb1 hg3 hg4
  obtain ⟨hp3, Bs, Bm, hB3⟩ := key
  clear HBlk HO0 HO1 HD HCL HRow x0 x1 x4 y4 cx0 cx1
  have hz3 := Bs.lt
  have HP3 := Lib.hid hp3; clear hp3
  go_wp2_with fail
  go_returns
  exact ⟨rfl, HP3.out, hB3⟩

set_option maxRecDepth 100000 in
set_option maxHeartbeats 2000000 in
theorem step40_get (b : Nat) (s0 c0 s1 c1 : Int) (m0 m1 : List (Bool × Int)) (i : Int) (q : Nat) (xa : Bool) (xn : Int) (w : World) (hP : PairAt w b s0 c0 s1 c1 m0 m1) (hq : pickv i m0.length = q) (hx : m0[q]? = some (xa, xn)) (hm : m0.length ≤ 40) :
    Calls Try.prog 11 #[.pointer (some ⟨b, 0, none⟩), .int .i64 4, .int .i64 0, .int .i64 i] w (Heard0 w b (hear s0 c0 xn xa) s0 c0 s1 c1 m0 m1) := by
  have hql : q < m0.length := (List.getElem?_eq_some_iff.1 hx).1
  obtain ⟨v0, v1, hblk, ho0, ho1, hdis⟩ := hP
  obtain ⟨g, k0, e0, hg1, hg2⟩ := ho0.form (by omega)
  obtain ⟨a1, k1, e1, -, -, -, -⟩ := ownsRow_at ho1 _ (flat_get m1)
  obtain ⟨a', k', e', hk1, hk2, -, hrow⟩ := ownsRow_at ho0 _ (flat_get m0)
  subst e0 e1
  obtain ⟨rfl, -, rfl⟩ : some ⟨g, 0, none⟩ = a' ∧ True ∧ k0 = k' := by simpa using e'
  clear e'
  obtain ⟨g', off', he', -, hcell⟩ := hrow (by omega)
  obtain ⟨rfl, rfl⟩ : g = g' ∧ 0 = off' := by simpa using he'
  clear he'
  have cx0 := hcell (q * 2) (by omega)
  have cx1 := hcell (q * 2 + 1) (by omega)
  rw [flatAt_fst hx] at cx0
  rw [flatAt_snd hx] at cx1
  rw [Nat.zero_add] at cx0 cx1
  have hcl := fun wx hR' => clone_msg (some ⟨g, 0, none⟩) m0.length k0 (flatAt m0) wx (by unfold maxLen; omega) (by omega) (by simp) hR' (flatAt_one m0)
  have HCL := Lib.hid hcl; have HRow := Lib.hid hrow; clear hcl hrow hcell
  have hlt := hblk.lt
  have x0 := hblk.get 0 _ rfl
  have x1 := hblk.get 1 _ rfl
  have x4 := hblk.get 4 _ rfl
  have y4 := hblk.free 4
  have HBlk := Lib.hid hblk; clear hblk
  have HO0 := Lib.hid ho0; have HO1 := Lib.hid ho1; clear ho0 ho1
  have HD := Lib.hid hdis; clear hdis
  have hd : ((m0.length : Int) == 0) = false := by simp; intro h; rw [h] at hql; simp at hql
  have hl0 : (0 : Int) < (m0.length : Int) := by omega
  have i1 : (0 : Int) ≤ (q : Int) := by omega
  have i2 : (q : Int) < (m0.length : Int) := by omega
  have i3 : IntKind.i64.wrap ((q : Int) + 1) = (q : Int) + 1 := IntWalk.i64_in _ (by omega)
  have HX := Lib.hid hx; clear hx
  have HQ := Lib.hid hq; clear hq
  go_enter Try.func11, Try.ntmps11
  go_wp2_with fail
  refine (pick_any _ _ _ (by omega) (by omega)).mono ?_
  rintro e w0 ⟨rfl, rfl⟩
  rw [HQ.out]
  go_wp2_with fail
  have key : PairAt ((w.alloc (.cells #[.int .i64 s0, .int .i64 c0] 23)).alloc (.cells #[.bool xa, .int .i64 xn] 25)) b s0 c0 s1 c1 m0 m1 ∧ Blk ((w.alloc (.cells #[.int .i64 s0, .int .i64 c0] 23)).alloc (.cells #[.bool xa, .int .i64 xn] 25)) w.heap.size (.cells #[.int .i64 s0, .int .i64 c0] 23) ∧ Blk ((w.alloc (.cells #[.int .i64 s0, .int .i64 c0] 23)).alloc (.cells #[.bool xa, .int .i64 xn] 25)) (w.heap.size + 1) (.cells #[.bool xa, .int .i64 xn] 25) ∧ Below b w ((w.alloc (.cells #[.int .i64 s0, .int .i64 c0] 23)).alloc (.cells #[.bool xa, .int .i64 xn] 25)) :=
    ⟨⟨_, _, (HBlk.out.alloc _).alloc _, (HO0.out.alloc _).alloc _, (HO1.out.alloc _).alloc _, HD.out⟩, (Blk.new w _).alloc _, Blk.new1 w _ _, by go_grown⟩
  generalize ((w.alloc (.cells #[.int .i64 s0, .int .i64 c0] 23)).alloc (.cells #[.bool xa, .int .i64 xn] 25)) = W3 at key ⊢
  obtain ⟨hp3, Bs, Bm, hB3⟩ := key
  clear HBlk HO0 HO1 HD HCL HRow x0 x1 x4 y4 cx0 cx1
  have hz3 := Bs.lt
  obtain ⟨v0, v1, hblk, ho0, ho1, hdis⟩ := hp3
  obtain ⟨ls, cs0, cs1, -, -⟩ := Bs.two
  obtain ⟨lm, cm0, cm1, -, -⟩ := Bm.two
  have hl3 := hblk.lt
  have HBlk := Lib.hid hblk; clear hblk Bs Bm
  have HO0 := Lib.hid ho0; have HO1 := Lib.hid ho1; clear ho0 ho1
  have HD := Lib.hid hdis; clear hdis
  generalize hh : hear s0 c0 xn xa = r
  obtain ⟨rs, rc, ra, rn, ri, re⟩ := r
  have HH := Lib.hid hh; clear hh
  go_wp2_with fail
  refine (hear_any _ _ _ _ _).mono ?_
  rintro e w4 ⟨rfl, hb4⟩
  rw [HH.out]; unfold HR.val; simp only []
  have B4 := Lib.hid (HBlk.out.after hb4)
  have P0 := Lib.hid (ownsRow_after HO0.out hb4)
  have P1 := Lib.hid (ownsRow_after HO1.out hb4)
  have lt4 := B4.out.lt
  have u0 := B4.out.get 0 _ rfl
  have u1 := B4.out.get 1 _ rfl
  have f0 := B4.out.free 0
  have f1 := B4.out.free 1
  have hB4 : Below b w w4 := below_mid hB3 hb4 (by omega)
  clear hb4 HBlk HO0 HO1
  by_cases he : re = 0
  · subst he
    cases ri with
    | false =>
      go_wp2_with fail
      go_region
      go_wp2_with fail
      go_returns
      rw [HH.out]
      refine heard0_ok rfl ⟨rfl, ⟨_, _, (((Blk.set (Blk.set B4.out 0 _) 1 _).alloc _).alloc _).drew, (((ownsRow_setCell_below (ownsRow_setCell_below P0.out (Nat.lt_succ_self b) _) (Nat.lt_succ_self b) _).alloc _).alloc _).drew, (((ownsRow_setCell_below (ownsRow_setCell_below P1.out (Nat.lt_succ_self b) _) (Nat.lt_succ_self b) _).alloc _).alloc _).drew, HD.out⟩, by go_grown⟩
    | true =>
      go_wp2_with fail
      go_region
      go_wp2_with fail
      refine (send0_any b rs rc s1 c1 m0 m1 _ _ _ ?_).mono ?_
      · exact ⟨_, _, (((Blk.set (Blk.set B4.out 0 _) 1 _).alloc _).alloc _).drew, (((ownsRow_setCell_below (ownsRow_setCell_below P0.out (Nat.lt_succ_self b) _) (Nat.lt_succ_self b) _).alloc _).alloc _).drew, (((ownsRow_setCell_below (ownsRow_setCell_below P1.out (Nat.lt_succ_self b) _) (Nat.lt_succ_self b) _).alloc _).alloc _).drew, HD.out⟩
      rintro e w5 ⟨rfl, hp, hb5⟩
      have HP := Lib.hid hp; clear hp
      have hB5 : Below b w w5 := Below.trans (by go_grown) hb5
      clear hb5
      go_wp2_with fail
      go_returns
      rw [HH.out]
      exact heard0_ok rfl ⟨rfl, by rw [sendM_if, sendM_if'] at HP; exact HP.out, hB5⟩
  · have hne : (re != 0) = true := by simpa using he
    have HE := Lib.hid he; clear he
    go_wp2_with fail
    go_returns
    rw [HH.out]
    exact heard0_err HE.out ⟨rfl, ⟨_, _, (B4.out.alloc _).alloc _, (P0.out.alloc _).alloc _, (P1.out.alloc _).alloc _, HD.out⟩, by go_grown⟩

set_option maxRecDepth 100000 in
set_option maxHeartbeats 2000000 in
theorem step21_get (b : Nat) (s0 c0 s1 c1 : Int) (m0 m1 : List (Bool × Int)) (i : Int) (q : Nat) (xa : Bool) (xn : Int) (w : World) (hP : PairAt w b s0 c0 s1 c1 m0 m1) (hq : pickv i m1.length = q) (hx : m1[q]? = some (xa, xn)) (hm : m1.length ≤ 40) :
    Calls Try.prog 11 #[.pointer (some ⟨b, 0, none⟩), .int .i64 2, .int .i64 1, .int .i64 i] w (Heard1 w b (hear s1 c1 xn xa) s0 c0 s1 c1 m0 (m1.eraseIdx q)) := by
  have hql : q < m1.length := (List.getElem?_eq_some_iff.1 hx).1
  obtain ⟨v0, v1, hblk, ho0, ho1, hdis⟩ := hP
  obtain ⟨g, k1, e1, hg1, hg2⟩ := ho1.form (by omega)
  obtain ⟨a0, k0, e0, -, -, -, -⟩ := ownsRow_at ho0 _ (flat_get m0)
  obtain ⟨a', k', e', hk1, hk2, -, hrow⟩ := ownsRow_at ho1 _ (flat_get m1)
  subst e0 e1
  obtain ⟨rfl, -, rfl⟩ : some ⟨g, 0, none⟩ = a' ∧ True ∧ k1 = k' := by simpa using e'
  clear e'
  obtain ⟨g', off', he', -, hcell⟩ := hrow (by omega)
  obtain ⟨rfl, rfl⟩ : g = g' ∧ 0 = off' := by simpa using he'
  clear he'
  have cx0 := hcell (q * 2) (by omega)
  have cx1 := hcell (q * 2 + 1) (by omega)
  rw [flatAt_fst hx] at cx0
  rw [flatAt_snd hx] at cx1
  rw [Nat.zero_add] at cx0 cx1
  have hcl := fun wx hR' => clone_msg (some ⟨g, 0, none⟩) m1.length k1 (flatAt m1) wx (by unfold maxLen; omega) (by omega) (by simp) hR' (flatAt_one m1)
  have HCL := Lib.hid hcl; have HRow := Lib.hid hrow; clear hcl hrow hcell
  have hlt := hblk.lt
  have x2 := hblk.get 2 _ rfl
  have x3 := hblk.get 3 _ rfl
  have x5 := hblk.get 5 _ rfl
  have y5 := hblk.free 5
  have HBlk := Lib.hid hblk; clear hblk
  have HO0 := Lib.hid ho0; have HO1 := Lib.hid ho1; clear ho0 ho1
  have HD := Lib.hid hdis; clear hdis
  have hd : ((m1.length : Int) == 0) = false := by simp; intro h; rw [h] at hql; simp at hql
  have hl0 : (0 : Int) < (m1.length : Int) := by omega
  have i1 : (0 : Int) ≤ (q : Int) := by omega
  have i2 : (q : Int) < (m1.length : Int) := by omega
  have i3 : IntKind.i64.wrap ((q : Int) + 1) = (q : Int) + 1 := IntWalk.i64_in _ (by omega)
  have HX := Lib.hid hx; clear hx
  have HQ := Lib.hid hq; clear hq
  go_enter Try.func11, Try.ntmps11
  go_wp2_with fail
  refine (pick_any _ _ _ (by omega) (by omega)).mono ?_
  rintro e w0 ⟨rfl, rfl⟩
  rw [HQ.out]
  go_wp2_with fail
  go_region_with (first
    | (go_at_call 21; refine (HCL.out _ (HRow.out.below (B := w.heap.size) (by go_grown) (Nat.le_refl _))).mono ?_; rintro e w1 ⟨v, rfl, hown, hb1, -⟩; obtain ⟨g1, cap1, rfl, hg3, hg4⟩ := hown.form (by omega); rw [flat_range] at hown; have hg5 : w.heap.size + 1 + 1 ≤ g1 := Nat.le_trans (by simp) hg3; have B1 := Lib.hid ((((HBlk.out.alloc _).alloc _).drew).after hb1); have P0 := Lib.hid (ownsRow_after ((HO0.out.alloc _).alloc _).drew hb1); have hB1 : Below b w w1 := below_mid (by go_grown) hb1 (by simp; omega))
    | (go_at_call 20; refine (delete_msg g1 _ cap1 q _ _ _ hown hql (flat_one m1)).mono ?_; rintro e w2 ⟨rfl, hown2, hgr2, hsz2⟩; have z1 := (hgr2.cell_far ⟨b, 5, none⟩ (by exact B1.out.lt) (by simp; omega)).trans (B1.out.get 5 _ rfl); have z2 := (hgr2.frozen_far ⟨b, 5, none⟩ (by exact B1.out.lt) (by simp; omega)).trans (B1.out.free 5)))
  have key := after_delete1 HBlk.out HO0.out HO1.out HD.out hb1 hown2 hgr2 hg5 hql (by simp; omega)
  generalize w2.setCell ⟨b, 5, none⟩ (.slice (some ⟨g1, 0, none⟩) (m1.length - 1) cap1) = W3 at key ⊢
  clear z1 z2 hown2 hgr2 hsz2 B1 P0 hB1 hg5 hown hb1 hg3 hg4
  obtain ⟨hp3, Bs, Bm, hB3⟩ := key
  clear HBlk HO0 HO1 HD HCL HRow x2 x3 x5 y5 cx0 cx1
  have hz3 := Bs.lt
  obtain ⟨v0, v1, hblk, ho0, ho1, hdis⟩ := hp3
  obtain ⟨ls, cs0, cs1, -, -⟩ := Bs.two
  obtain ⟨lm, cm0, cm1, -, -⟩ := Bm.two
  have hl3 := hblk.lt
  have HBlk := Lib.hid hblk; clear hblk Bs Bm
  have HO0 := Lib.hid ho0; have HO1 := Lib.hid ho1; clear ho0 ho1
  have HD := Lib.hid hdis; clear hdis
  generalize hh : hear s1 c1 xn xa = r
  obtain ⟨rs, rc, ra, rn, ri, re⟩ := r
  have HH := Lib.hid hh; clear hh
  go_wp2_with fail
  refine (hear_any _ _ _ _ _).mono ?_
  rintro e w4 ⟨rfl, hb4⟩
  rw [HH.out]; unfold HR.val; simp only []
  have B4 := Lib.hid (HBlk.out.after hb4)
  have P0 := Lib.hid (ownsRow_after HO0.out hb4)
  have P1 := Lib.hid (ownsRow_after HO1.out hb4)
  have lt4 := B4.out.lt
  have u2 := B4.out.get 2 _ rfl
  have u3 := B4.out.get 3 _ rfl
  have f2 := B4.out.free 2
  have f3 := B4.out.free 3
  have hB4 : Below b w w4 := below_mid hB3 hb4 (by omega)
  clear hb4 HBlk HO0 HO1
  by_cases he : re = 0
  · subst he
    cases ri with
    | false =>
      go_wp2_with fail
      go_region
      go_wp2_with fail
      go_returns
      rw [HH.out]
      refine heard1_ok rfl ⟨rfl, ⟨_, _, (((Blk.set (Blk.set B4.out 2 _) 3 _).alloc _).alloc _).drew, (((ownsRow_setCell_below (ownsRow_setCell_below P0.out (Nat.lt_succ_self b) _) (Nat.lt_succ_self b) _).alloc _).alloc _).drew, (((ownsRow_setCell_below (ownsRow_setCell_below P1.out (Nat.lt_succ_self b) _) (Nat.lt_succ_self b) _).alloc _).alloc _).drew, HD.out⟩, by go_grown⟩
    | true =>
      go_wp2_with fail
      go_region
      go_wp2_with fail
      refine (send1_any b s0 c0 rs rc m0 (m1.eraseIdx q) _ _ _ ?_).mono ?_
      · exact ⟨_, _, (((Blk.set (Blk.set B4.out 2 _) 3 _).alloc _).alloc _).drew, (((ownsRow_setCell_below (ownsRow_setCell_below P0.out (Nat.lt_succ_self b) _) (Nat.lt_succ_self b) _).alloc _).alloc _).drew, (((ownsRow_setCell_below (ownsRow_setCell_below P1.out (Nat.lt_succ_self b) _) (Nat.lt_succ_self b) _).alloc _).alloc _).drew, HD.out⟩
      rintro e w5 ⟨rfl, hp, hb5⟩
      have HP := Lib.hid hp; clear hp
      have hB5 : Below b w w5 := Below.trans (by go_grown) hb5
      clear hb5
      go_wp2_with fail
      go_returns
      rw [HH.out]
      exact heard1_ok rfl ⟨rfl, by rw [sendM_if, sendM_if'] at HP; exact HP.out, hB5⟩
  · have hne : (re != 0) = true := by simpa using he
    have HE := Lib.hid he; clear he
    go_wp2_with fail
    go_returns
    rw [HH.out]
    exact heard1_err HE.out ⟨rfl, ⟨_, _, (B4.out.alloc _).alloc _, (P0.out.alloc _).alloc _, (P1.out.alloc _).alloc _, HD.out⟩, by go_grown⟩

set_option maxRecDepth 100000 in
set_option maxHeartbeats 2000000 in
theorem step31_get (b : Nat) (s0 c0 s1 c1 : Int) (m0 m1 : List (Bool × Int)) (i : Int) (q : Nat) (xa : Bool) (xn : Int) (w : World) (hP : PairAt w b s0 c0 s1 c1 m0 m1) (hq : pickv i m1.length = q) (hx : m1[q]? = some (xa, xn)) (hm : m1.length ≤ 40) :
    Calls Try.prog 11 #[.pointer (some ⟨b, 0, none⟩), .int .i64 3, .int .i64 1, .int .i64 i] w (Stepped w b true s0 c0 s1 c1 m0 (m1.eraseIdx q)) := by
  have hql : q < m1.length := (List.getElem?_eq_some_iff.1 hx).1
  obtain ⟨v0, v1, hblk, ho0, ho1, hdis⟩ := hP
  obtain ⟨g, k1, e1, hg1, hg2⟩ := ho1.form (by omega)
  obtain ⟨a0, k0, e0, -, -, -, -⟩ := ownsRow_at ho0 _ (flat_get m0)
  obtain ⟨a', k', e', hk1, hk2, -, hrow⟩ := ownsRow_at ho1 _ (flat_get m1)
  subst e0 e1
  obtain ⟨rfl, -, rfl⟩ : some ⟨g, 0, none⟩ = a' ∧ True ∧ k1 = k' := by simpa using e'
  clear e'
  obtain ⟨g', off', he', -, hcell⟩ := hrow (by omega)
  obtain ⟨rfl, rfl⟩ : g = g' ∧ 0 = off' := by simpa using he'
  clear he'
  have cx0 := hcell (q * 2) (by omega)
  have cx1 := hcell (q * 2 + 1) (by omega)
  rw [flatAt_fst hx] at cx0
  rw [flatAt_snd hx] at cx1
  rw [Nat.zero_add] at cx0 cx1
  have hcl := fun wx hR' => clone_msg (some ⟨g, 0, none⟩) m1.length k1 (flatAt m1) wx (by unfold maxLen; omega) (by omega) (by simp) hR' (flatAt_one m1)
  have HCL := Lib.hid hcl; have HRow := Lib.hid hrow; clear hcl hrow hcell
  have hlt := hblk.lt
  have x2 := hblk.get 2 _ rfl
  have x3 := hblk.get 3 _ rfl
  have x5 := hblk.get 5 _ rfl
  have y5 := hblk.free 5
  have HBlk := Lib.hid hblk; clear hblk
  have HO0 := Lib.hid ho0; have HO1 := Lib.hid ho1; clear ho0 ho1
  have HD := Lib.hid hdis; clear hdis
  have hd : ((m1.length : Int) == 0) = false := by simp; intro h; rw [h] at hql; simp at hql
  have hl0 : (0 : Int) < (m1.length : Int) := by omega
  have i1 : (0 : Int) ≤ (q : Int) := by omega
  have i2 : (q : Int) < (m1.length : Int) := by omega
  have i3 : IntKind.i64.wrap ((q : Int) + 1) = (q : Int) + 1 := IntWalk.i64_in _ (by omega)
  have HX := Lib.hid hx; clear hx
  have HQ := Lib.hid hq; clear hq
  go_enter Try.func11, Try.ntmps11
  go_wp2_with fail
  refine (pick_any _ _ _ (by omega) (by omega)).mono ?_
  rintro e w0 ⟨rfl, rfl⟩
  rw [HQ.out]
  go_wp2_with fail
  go_region_with (first
    | (go_at_call 21; refine (HCL.out _ (HRow.out.below (B := w.heap.size) (by go_grown) (Nat.le_refl _))).mono ?_; rintro e w1 ⟨v, rfl, hown, hb1, -⟩; obtain ⟨g1, cap1, rfl, hg3, hg4⟩ := hown.form (by omega); rw [flat_range] at hown; have hg5 : w.heap.size + 1 + 1 ≤ g1 := Nat.le_trans (by simp) hg3; have B1 := Lib.hid ((((HBlk.out.alloc _).alloc _).drew).after hb1); have P0 := Lib.hid (ownsRow_after ((HO0.out.alloc _).alloc _).drew hb1); have hB1 : Below b w w1 := below_mid (by go_grown) hb1 (by simp; omega))
    | (go_at_call 20; refine (delete_msg g1 _ cap1 q _ _ _ hown hql (flat_one m1)).mono ?_; rintro e w2 ⟨rfl, hown2, hgr2, hsz2⟩; have z1 := (hgr2.cell_far ⟨b, 5, none⟩ (by exact B1.out.lt) (by simp; omega)).trans (B1.out.get 5 _ rfl); have z2 := (hgr2.frozen_far ⟨b, 5, none⟩ (by exact B1.out.lt) (by simp; omega)).trans (B1.out.free 5)))
  have key := after_delete1 HBlk.out HO0.out HO1.out HD.out hb1 hown2 hgr2 hg5 hql (by simp; omega)
  generalize w2.setCell ⟨b, 5, none⟩ (.slice (some ⟨g1, 0, none⟩) (m1.length - 1) cap1) = W3 at key ⊢
  clear z1 z2 hown2 hgr2 hsz2 B1 P0 hB1 hg5 hown hb1 hg3 hg4
  obtain ⟨hp3, Bs, Bm, hB3⟩ := key
  clear HBlk HO0 HO1 HD HCL HRow x2 x3 x5 y5 cx0 cx1
  have hz3 := Bs.lt
  have HP3 := Lib.hid hp3; clear hp3
  go_wp2_with fail
  go_returns
  exact ⟨rfl, HP3.out, hB3⟩

set_option maxRecDepth 100000 in
set_option maxHeartbeats 2000000 in
theorem step41_get (b : Nat) (s0 c0 s1 c1 : Int) (m0 m1 : List (Bool × Int)) (i : Int) (q : Nat) (xa : Bool) (xn : Int) (w : World) (hP : PairAt w b s0 c0 s1 c1 m0 m1) (hq : pickv i m1.length = q) (hx : m1[q]? = some (xa, xn)) (hm : m1.length ≤ 40) :
    Calls Try.prog 11 #[.pointer (some ⟨b, 0, none⟩), .int .i64 4, .int .i64 1, .int .i64 i] w (Heard1 w b (hear s1 c1 xn xa) s0 c0 s1 c1 m0 m1) := by
  have hql : q < m1.length := (List.getElem?_eq_some_iff.1 hx).1
  obtain ⟨v0, v1, hblk, ho0, ho1, hdis⟩ := hP
  obtain ⟨g, k1, e1, hg1, hg2⟩ := ho1.form (by omega)
  obtain ⟨a0, k0, e0, -, -, -, -⟩ := ownsRow_at ho0 _ (flat_get m0)
  obtain ⟨a', k', e', hk1, hk2, -, hrow⟩ := ownsRow_at ho1 _ (flat_get m1)
  subst e0 e1
  obtain ⟨rfl, -, rfl⟩ : some ⟨g, 0, none⟩ = a' ∧ True ∧ k1 = k' := by simpa using e'
  clear e'
  obtain ⟨g', off', he', -, hcell⟩ := hrow (by omega)
  obtain ⟨rfl, rfl⟩ : g = g' ∧ 0 = off' := by simpa using he'
  clear he'
  have cx0 := hcell (q * 2) (by omega)
  have cx1 := hcell (q * 2 + 1) (by omega)
  rw [flatAt_fst hx] at cx0
  rw [flatAt_snd hx] at cx1
  rw [Nat.zero_add] at cx0 cx1
  have hcl := fun wx hR' => clone_msg (some ⟨g, 0, none⟩) m1.length k1 (flatAt m1) wx (by unfold maxLen; omega) (by omega) (by simp) hR' (flatAt_one m1)
  have HCL := Lib.hid hcl; have HRow := Lib.hid hrow; clear hcl hrow hcell
  have hlt := hblk.lt
  have x2 := hblk.get 2 _ rfl
  have x3 := hblk.get 3 _ rfl
  have x5 := hblk.get 5 _ rfl
  have y5 := hblk.free 5
  have HBlk := Lib.hid hblk; clear hblk
  have HO0 := Lib.hid ho0; have HO1 := Lib.hid ho1; clear ho0 ho1
  have HD := Lib.hid hdis; clear hdis
  have hd : ((m1.length : Int) == 0) = false := by simp; intro h; rw [h] at hql; simp at hql
  have hl0 : (0 : Int) < (m1.length : Int) := by omega
  have i1 : (0 : Int) ≤ (q : Int) := by omega
  have i2 : (q : Int) < (m1.length : Int) := by omega
  have i3 : IntKind.i64.wrap ((q : Int) + 1) = (q : Int) + 1 := IntWalk.i64_in _ (by omega)
  have HX := Lib.hid hx; clear hx
  have HQ := Lib.hid hq; clear hq
  go_enter Try.func11, Try.ntmps11
  go_wp2_with fail
  refine (pick_any _ _ _ (by omega) (by omega)).mono ?_
  rintro e w0 ⟨rfl, rfl⟩
  rw [HQ.out]
  go_wp2_with fail
  have key : PairAt ((w.alloc (.cells #[.int .i64 s1, .int .i64 c1] 23)).alloc (.cells #[.bool xa, .int .i64 xn] 25)) b s0 c0 s1 c1 m0 m1 ∧ Blk ((w.alloc (.cells #[.int .i64 s1, .int .i64 c1] 23)).alloc (.cells #[.bool xa, .int .i64 xn] 25)) w.heap.size (.cells #[.int .i64 s1, .int .i64 c1] 23) ∧ Blk ((w.alloc (.cells #[.int .i64 s1, .int .i64 c1] 23)).alloc (.cells #[.bool xa, .int .i64 xn] 25)) (w.heap.size + 1) (.cells #[.bool xa, .int .i64 xn] 25) ∧ Below b w ((w.alloc (.cells #[.int .i64 s1, .int .i64 c1] 23)).alloc (.cells #[.bool xa, .int .i64 xn] 25)) :=
    ⟨⟨_, _, (HBlk.out.alloc _).alloc _, (HO0.out.alloc _).alloc _, (HO1.out.alloc _).alloc _, HD.out⟩, (Blk.new w _).alloc _, Blk.new1 w _ _, by go_grown⟩
  generalize ((w.alloc (.cells #[.int .i64 s1, .int .i64 c1] 23)).alloc (.cells #[.bool xa, .int .i64 xn] 25)) = W3 at key ⊢
  obtain ⟨hp3, Bs, Bm, hB3⟩ := key
  clear HBlk HO0 HO1 HD HCL HRow x2 x3 x5 y5 cx0 cx1
  have hz3 := Bs.lt
  obtain ⟨v0, v1, hblk, ho0, ho1, hdis⟩ := hp3
  obtain ⟨ls, cs0, cs1, -, -⟩ := Bs.two
  obtain ⟨lm, cm0, cm1, -, -⟩ := Bm.two
  have hl3 := hblk.lt
  have HBlk := Lib.hid hblk; clear hblk Bs Bm
  have HO0 := Lib.hid ho0; have HO1 := Lib.hid ho1; clear ho0 ho1
  have HD := Lib.hid hdis; clear hdis
  generalize hh : hear s1 c1 xn xa = r
  obtain ⟨rs, rc, ra, rn, ri, re⟩ := r
  have HH := Lib.hid hh; clear hh
  go_wp2_with fail
  refine (hear_any _ _ _ _ _).mono ?_
  rintro e w4 ⟨rfl, hb4⟩
  rw [HH.out]; unfold HR.val; simp only []
  have B4 := Lib.hid (HBlk.out.after hb4)
  have P0 := Lib.hid (ownsRow_after HO0.out hb4)
  have P1 := Lib.hid (ownsRow_after HO1.out hb4)
  have lt4 := B4.out.lt
  have u2 := B4.out.get 2 _ rfl
  have u3 := B4.out.get 3 _ rfl
  have f2 := B4.out.free 2
  have f3 := B4.out.free 3
  have hB4 : Below b w w4 := below_mid hB3 hb4 (by omega)
  clear hb4 HBlk HO0 HO1
  by_cases he : re = 0
  · subst he
    cases ri with
    | false =>
      go_wp2_with fail
      go_region
      go_wp2_with fail
      go_returns
      rw [HH.out]
      refine heard1_ok rfl ⟨rfl, ⟨_, _, (((Blk.set (Blk.set B4.out 2 _) 3 _).alloc _).alloc _).drew, (((ownsRow_setCell_below (ownsRow_setCell_below P0.out (Nat.lt_succ_self b) _) (Nat.lt_succ_self b) _).alloc _).alloc _).drew, (((ownsRow_setCell_below (ownsRow_setCell_below P1.out (Nat.lt_succ_self b) _) (Nat.lt_succ_self b) _).alloc _).alloc _).drew, HD.out⟩, by go_grown⟩
    | true =>
      go_wp2_with fail
      go_region
      go_wp2_with fail
      refine (send1_any b s0 c0 rs rc m0 m1 _ _ _ ?_).mono ?_
      · exact ⟨_, _, (((Blk.set (Blk.set B4.out 2 _) 3 _).alloc _).alloc _).drew, (((ownsRow_setCell_below (ownsRow_setCell_below P0.out (Nat.lt_succ_self b) _) (Nat.lt_succ_self b) _).alloc _).alloc _).drew, (((ownsRow_setCell_below (ownsRow_setCell_below P1.out (Nat.lt_succ_self b) _) (Nat.lt_succ_self b) _).alloc _).alloc _).drew, HD.out⟩
      rintro e w5 ⟨rfl, hp, hb5⟩
      have HP := Lib.hid hp; clear hp
      have hB5 : Below b w w5 := Below.trans (by go_grown) hb5
      clear hb5
      go_wp2_with fail
      go_returns
      rw [HH.out]
      exact heard1_ok rfl ⟨rfl, by rw [sendM_if, sendM_if'] at HP; exact HP.out, hB5⟩
  · have hne : (re != 0) = true := by simpa using he
    have HE := Lib.hid he; clear he
    go_wp2_with fail
    go_returns
    rw [HH.out]
    exact heard1_err HE.out ⟨rfl, ⟨_, _, (B4.out.alloc _).alloc _, (P0.out.alloc _).alloc _, (P1.out.alloc _).alloc _, HD.out⟩, by go_grown⟩

end Go.Proofs.Ytacdkldpnpjonaa
