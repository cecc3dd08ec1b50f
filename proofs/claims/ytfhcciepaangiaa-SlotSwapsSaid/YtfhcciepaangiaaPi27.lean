/- More rules: shapes, lists of facts, bytes, arrays, numbers. -/
import Derived.Test.YtfhcciepaangiaaPi26
set_option linter.unusedVariables false
set_option linter.unusedSimpArgs false
namespace Go.Proofs.Ytfhcciepaangiaa
open Go.RowKit

theorem imp {G X Y : Prop} (f : Y → X) (h : G → Y) : G → X := fun g => f (h g)
theorem exA1_b {a0 : AV} {k : AV → Prop} (h : k a0) : exA1 (.agg [a0]) k := h
theorem exA2_b {a0 a1 : AV} {k : AV → AV → Prop} (h : k a0 a1) : exA2 (.agg [a0, a1]) k := h
theorem exA3_b {a0 a1 a2 : AV} {k : AV → AV → AV → Prop} (h : k a0 a1 a2) : exA3 (.agg [a0, a1, a2]) k := h
theorem exA4_b {a0 a1 a2 a3 : AV} {k : AV → AV → AV → AV → Prop} (h : k a0 a1 a2 a3) : exA4 (.agg [a0, a1, a2, a3]) k := h
theorem exA5_b {a0 a1 a2 a3 a4 : AV} {k : AV → AV → AV → AV → AV → Prop} (h : k a0 a1 a2 a3 a4) : exA5 (.agg [a0, a1, a2, a3, a4]) k := h
theorem exA6_b {a0 a1 a2 a3 a4 a5 : AV} {k : AV → AV → AV → AV → AV → AV → Prop} (h : k a0 a1 a2 a3 a4 a5) : exA6 (.agg [a0, a1, a2, a3, a4, a5]) k := h
theorem exA7_b {a0 a1 a2 a3 a4 a5 a6 : AV} {k : AV → AV → AV → AV → AV → AV → AV → Prop} (h : k a0 a1 a2 a3 a4 a5 a6) : exA7 (.agg [a0, a1, a2, a3, a4, a5, a6]) k := h
theorem exA8_b {a0 a1 a2 a3 a4 a5 a6 a7 : AV} {k : AV → AV → AV → AV → AV → AV → AV → AV → Prop} (h : k a0 a1 a2 a3 a4 a5 a6 a7) : exA8 (.agg [a0, a1, a2, a3, a4, a5, a6, a7]) k := h
theorem exA9_b {a0 a1 a2 a3 a4 a5 a6 a7 a8 : AV} {k : AV → AV → AV → AV → AV → AV → AV → AV → AV → Prop} (h : k a0 a1 a2 a3 a4 a5 a6 a7 a8) : exA9 (.agg [a0, a1, a2, a3, a4, a5, a6, a7, a8]) k := h
theorem exA10_b {a0 a1 a2 a3 a4 a5 a6 a7 a8 a9 : AV} {k : AV → AV → AV → AV → AV → AV → AV → AV → AV → AV → Prop} (h : k a0 a1 a2 a3 a4 a5 a6 a7 a8 a9) : exA10 (.agg [a0, a1, a2, a3, a4, a5, a6, a7, a8, a9]) k := h
theorem exA11_b {a0 a1 a2 a3 a4 a5 a6 a7 a8 a9 a10 : AV} {k : AV → AV → AV → AV → AV → AV → AV → AV → AV → AV → AV → Prop} (h : k a0 a1 a2 a3 a4 a5 a6 a7 a8 a9 a10) : exA11 (.agg [a0, a1, a2, a3, a4, a5, a6, a7, a8, a9, a10]) k := h
theorem exA12_b {a0 a1 a2 a3 a4 a5 a6 a7 a8 a9 a10 a11 : AV} {k : AV → AV → AV → AV → AV → AV → AV → AV → AV → AV → AV → AV → Prop} (h : k a0 a1 a2 a3 a4 a5 a6 a7 a8 a9 a10 a11) : exA12 (.agg [a0, a1, a2, a3, a4, a5, a6, a7, a8, a9, a10, a11]) k := h
theorem exA13_b {a0 a1 a2 a3 a4 a5 a6 a7 a8 a9 a10 a11 a12 : AV} {k : AV → AV → AV → AV → AV → AV → AV → AV → AV → AV → AV → AV → AV → Prop} (h : k a0 a1 a2 a3 a4 a5 a6 a7 a8 a9 a10 a11 a12) : exA13 (.agg [a0, a1, a2, a3, a4, a5, a6, a7, a8, a9, a10, a11, a12]) k := h
theorem exA14_b {a0 a1 a2 a3 a4 a5 a6 a7 a8 a9 a10 a11 a12 a13 : AV} {k : AV → AV → AV → AV → AV → AV → AV → AV → AV → AV → AV → AV → AV → AV → Prop} (h : k a0 a1 a2 a3 a4 a5 a6 a7 a8 a9 a10 a11 a12 a13) : exA14 (.agg [a0, a1, a2, a3, a4, a5, a6, a7, a8, a9, a10, a11, a12, a13]) k := h
theorem exA15_b {a0 a1 a2 a3 a4 a5 a6 a7 a8 a9 a10 a11 a12 a13 a14 : AV} {k : AV → AV → AV → AV → AV → AV → AV → AV → AV → AV → AV → AV → AV → AV → AV → Prop} (h : k a0 a1 a2 a3 a4 a5 a6 a7 a8 a9 a10 a11 a12 a13 a14) : exA15 (.agg [a0, a1, a2, a3, a4, a5, a6, a7, a8, a9, a10, a11, a12, a13, a14]) k := h
theorem exA16_b {a0 a1 a2 a3 a4 a5 a6 a7 a8 a9 a10 a11 a12 a13 a14 a15 : AV} {k : AV → AV → AV → AV → AV → AV → AV → AV → AV → AV → AV → AV → AV → AV → AV → AV → Prop} (h : k a0 a1 a2 a3 a4 a5 a6 a7 a8 a9 a10 a11 a12 a13 a14 a15) : exA16 (.agg [a0, a1, a2, a3, a4, a5, a6, a7, a8, a9, a10, a11, a12, a13, a14, a15]) k := h
theorem exA17_b {a0 a1 a2 a3 a4 a5 a6 a7 a8 a9 a10 a11 a12 a13 a14 a15 a16 : AV} {k : AV → AV → AV → AV → AV → AV → AV → AV → AV → AV → AV → AV → AV → AV → AV → AV → AV → Prop} (h : k a0 a1 a2 a3 a4 a5 a6 a7 a8 a9 a10 a11 a12 a13 a14 a15 a16) : exA17 (.agg [a0, a1, a2, a3, a4, a5, a6, a7, a8, a9, a10, a11, a12, a13, a14, a15, a16]) k := h
theorem exA18_b {a0 a1 a2 a3 a4 a5 a6 a7 a8 a9 a10 a11 a12 a13 a14 a15 a16 a17 : AV} {k : AV → AV → AV → AV → AV → AV → AV → AV → AV → AV → AV → AV → AV → AV → AV → AV → AV → AV → Prop} (h : k a0 a1 a2 a3 a4 a5 a6 a7 a8 a9 a10 a11 a12 a13 a14 a15 a16 a17) : exA18 (.agg [a0, a1, a2, a3, a4, a5, a6, a7, a8, a9, a10, a11, a12, a13, a14, a15, a16, a17]) k := h
theorem exA19_b {a0 a1 a2 a3 a4 a5 a6 a7 a8 a9 a10 a11 a12 a13 a14 a15 a16 a17 a18 : AV} {k : AV → AV → AV → AV → AV → AV → AV → AV → AV → AV → AV → AV → AV → AV → AV → AV → AV → AV → AV → Prop} (h : k a0 a1 a2 a3 a4 a5 a6 a7 a8 a9 a10 a11 a12 a13 a14 a15 a16 a17 a18) : exA19 (.agg [a0, a1, a2, a3, a4, a5, a6, a7, a8, a9, a10, a11, a12, a13, a14, a15, a16, a17, a18]) k := h
theorem exA20_b {a0 a1 a2 a3 a4 a5 a6 a7 a8 a9 a10 a11 a12 a13 a14 a15 a16 a17 a18 a19 : AV} {k : AV → AV → AV → AV → AV → AV → AV → AV → AV → AV → AV → AV → AV → AV → AV → AV → AV → AV → AV → AV → Prop} (h : k a0 a1 a2 a3 a4 a5 a6 a7 a8 a9 a10 a11 a12 a13 a14 a15 a16 a17 a18 a19) : exA20 (.agg [a0, a1, a2, a3, a4, a5, a6, a7, a8, a9, a10, a11, a12, a13, a14, a15, a16, a17, a18, a19]) k := h
theorem exA21_b {a0 a1 a2 a3 a4 a5 a6 a7 a8 a9 a10 a11 a12 a13 a14 a15 a16 a17 a18 a19 a20 : AV} {k : AV → AV → AV → AV → AV → AV → AV → AV → AV → AV → AV → AV → AV → AV → AV → AV → AV → AV → AV → AV → AV → Prop} (h : k a0 a1 a2 a3 a4 a5 a6 a7 a8 a9 a10 a11 a12 a13 a14 a15 a16 a17 a18 a19 a20) : exA21 (.agg [a0, a1, a2, a3, a4, a5, a6, a7, a8, a9, a10, a11, a12, a13, a14, a15, a16, a17, a18, a19, a20]) k := h
theorem exA22_b {a0 a1 a2 a3 a4 a5 a6 a7 a8 a9 a10 a11 a12 a13 a14 a15 a16 a17 a18 a19 a20 a21 : AV} {k : AV → AV → AV → AV → AV → AV → AV → AV → AV → AV → AV → AV → AV → AV → AV → AV → AV → AV → AV → AV → AV → AV → Prop} (h : k a0 a1 a2 a3 a4 a5 a6 a7 a8 a9 a10 a11 a12 a13 a14 a15 a16 a17 a18 a19 a20 a21) : exA22 (.agg [a0, a1, a2, a3, a4, a5, a6, a7, a8, a9, a10, a11, a12, a13, a14, a15, a16, a17, a18, a19, a20, a21]) k := h
theorem exA23_b {a0 a1 a2 a3 a4 a5 a6 a7 a8 a9 a10 a11 a12 a13 a14 a15 a16 a17 a18 a19 a20 a21 a22 : AV} {k : AV → AV → AV → AV → AV → AV → AV → AV → AV → AV → AV → AV → AV → AV → AV → AV → AV → AV → AV → AV → AV → AV → AV → Prop} (h : k a0 a1 a2 a3 a4 a5 a6 a7 a8 a9 a10 a11 a12 a13 a14 a15 a16 a17 a18 a19 a20 a21 a22) : exA23 (.agg [a0, a1, a2, a3, a4, a5, a6, a7, a8, a9, a10, a11, a12, a13, a14, a15, a16, a17, a18, a19, a20, a21, a22]) k := h
theorem exA24_b {a0 a1 a2 a3 a4 a5 a6 a7 a8 a9 a10 a11 a12 a13 a14 a15 a16 a17 a18 a19 a20 a21 a22 a23 : AV} {k : AV → AV → AV → AV → AV → AV → AV → AV → AV → AV → AV → AV → AV → AV → AV → AV → AV → AV → AV → AV → AV → AV → AV → AV → Prop} (h : k a0 a1 a2 a3 a4 a5 a6 a7 a8 a9 a10 a11 a12 a13 a14 a15 a16 a17 a18 a19 a20 a21 a22 a23) : exA24 (.agg [a0, a1, a2, a3, a4, a5, a6, a7, a8, a9, a10, a11, a12, a13, a14, a15, a16, a17, a18, a19, a20, a21, a22, a23]) k := h
theorem exT0_b {k : Prop} (h : k) : exT0 (.tup []) k := h
theorem exT2_b {a0 a1 : AV} {k : AV → AV → Prop} (h : k a0 a1) : exT2 (.tup [a0, a1]) k := h
theorem exT3_b {a0 a1 a2 : AV} {k : AV → AV → AV → Prop} (h : k a0 a1 a2) : exT3 (.tup [a0, a1, a2]) k := h
theorem exT4_b {a0 a1 a2 a3 : AV} {k : AV → AV → AV → AV → Prop} (h : k a0 a1 a2 a3) : exT4 (.tup [a0, a1, a2, a3]) k := h
theorem exT5_b {a0 a1 a2 a3 a4 : AV} {k : AV → AV → AV → AV → AV → Prop} (h : k a0 a1 a2 a3 a4) : exT5 (.tup [a0, a1, a2, a3, a4]) k := h
theorem exT6_b {a0 a1 a2 a3 a4 a5 : AV} {k : AV → AV → AV → AV → AV → AV → Prop} (h : k a0 a1 a2 a3 a4 a5) : exT6 (.tup [a0, a1, a2, a3, a4, a5]) k := h
theorem exT7_b {a0 a1 a2 a3 a4 a5 a6 : AV} {k : AV → AV → AV → AV → AV → AV → AV → Prop} (h : k a0 a1 a2 a3 a4 a5 a6) : exT7 (.tup [a0, a1, a2, a3, a4, a5, a6]) k := h
theorem exT8_b {a0 a1 a2 a3 a4 a5 a6 a7 : AV} {k : AV → AV → AV → AV → AV → AV → AV → AV → Prop} (h : k a0 a1 a2 a3 a4 a5 a6 a7) : exT8 (.tup [a0, a1, a2, a3, a4, a5, a6, a7]) k := h
def byteA (b : UInt8) : AV := .sc (.int .u8 (b.toNat : Int))
def byteE : En UInt8 where
  size := 1
  enc b := [byteA b]
  len _ := rfl
  pos := by decide
  cell _ := rfl
  cln _ := rfl
  nrm _ := rfl
theorem intE.nf : NoFn intE := by intro x c hc f l; simp only [intE, List.mem_singleton] at hc; subst hc; exact (fun h => by cases h)
theorem strE.nf : NoFn strE := by intro x c hc f l; simp only [strE, List.mem_singleton] at hc; subst hc; exact (fun h => by cases h)
theorem boolE.nf : NoFn boolE := by intro x c hc f l; simp only [boolE, List.mem_singleton] at hc; subst hc; exact (fun h => by cases h)
theorem byteE.nf : NoFn byteE := by intro x c hc f l; simp only [byteE, List.mem_singleton] at hc; subst hc; exact (fun h => by cases h)
theorem lstE.nf {α : Type} (E : En α) : NoFn (lstE E) := by intro x c hc f l; simp only [lstE, List.mem_singleton] at hc; subst hc; exact (fun h => by cases h)
section
variable {α : Type} {E : En α} {P : Program} {gl : Nat → Option (List AV)} {look : Nat → Option ABlk} {ρ : Type} {t : ρ}
theorem cond_tt {b : Bool} {x y : Prop} (h : b = true) (k : x) : bif b then x else y := by subst h; exact k
theorem cond_ff {b : Bool} {x y : Prop} (h : b = false) (k : y) : bif b then x else y := by subst h; exact k
theorem mapInr_b {σ : Type} {a : Option ρ} {t : σ ⊕ ρ} {X : Prop} (h : ∀ t', t = .inr t' → a = some t' → X) : a.map Sum.inr = some t → X := by
  intro e
  obtain ⟨t', h1, h2⟩ := Option.map_eq_some_iff.1 e
  exact h t' h2.symm h1
theorem okW_nil {s : St} {pl : List (Nat × Nat)} : okW s pl [] := trivial
theorem okW_cons {s : St} {pl : List (Nat × Nat)} {j : Nat} {v : AV} {r : List (Nat × AV)} (h : Ent s pl (eget s.e j) v) (hr : okW s pl r) : okW s pl ((j, v) :: r) := ⟨h, hr⟩
theorem okB_nil' {s : St} {pl : List (Nat × Nat)} : okB s pl [] := trivial
theorem okB_cons {s : St} {pl : List (Nat × Nat)} {id : Nat} {ob : Option ABlk} {r : Mem} (h : ∀ b, ob = some b → ∃ b', mget s.m (piL pl s.nx id) = some b' ∧ b'.ty = b.ty ∧ b'.cells = rens (piL pl s.nx) b.cells) (hr : okB s pl r) : okB s pl ((id, ob) :: r) := ⟨h, hr⟩
theorem snL_nil {m : Nat → Option ABlk} {k : Nat} : SnL m k [] [] := trivial
theorem snL_cons {m : Nat → Option ABlk} {k : Nat} {a v : AV} {r s : List AV} (h : Sn m k a v) (hr : SnL m k r s) : SnL m k (a :: r) (v :: s) := ⟨h, hr⟩
theorem fzL_nil {m : Mem} {k : Nat} : FzL k m [] [] := trivial
theorem fzL_cons {m : Mem} {k : Nat} {a v : AV} {r s : List AV} (h : Fz k m a v) (hr : FzL k m r s) : FzL k m (a :: r) (v :: s) := ⟨h, hr⟩
theorem ret0 {R : AV → Mem → Prop} {m : Mem} (hR : ∀ u m, Ans (.tup []) u m → R u m) : retL R m [] := hR _ m rfl
theorem nilK_nils {k : Bool → Prop} (h : k true) : nilK .nils k := h
theorem isCell_own (id : Nat) (l : List α) : isCell (ownV E id l) = true := by cases l <;> rfl
theorem own_some {ty id i : Nat} {l : List α} {x : α} (hb : look id = ownB E ty l) (h : l[i]? = some x) : look id = some ⟨encs E l, ty⟩ := by
  rw [hb]; exact ownB_ne (by rintro rfl; simp at h)
theorem set_get {l : List α} {i : Nat} {x y : α} (h : l[i]? = some x) : (l.set i y)[i]? = some y := by
  have hlt : i < l.length := by
    rcases Nat.lt_or_ge i l.length with h' | h'
    · exact h'
    · rw [List.getElem?_eq_none h'] at h; cases h
  rw [List.getElem?_set_self hlt]
theorem set_ne {l : List α} {i : Nat} {x y : α} (h : l[i]? = some x) : l.set i y ≠ [] := by
  intro e
  have := set_get (y := y) h
  rw [e] at this; simp at this
theorem storeW_elO {t id off ty o i : Nat} {l : List α} {x y : α} {v : AV} {k : AV → Wr → Prop} (hu : (P.underlying t).map isAggD = some false) (hz : tsize P t = some 1) (hv : isCell v = true) (hb : look id = ownB E ty l) (h : l[i]? = some x) (ho : off = i * E.size + o) (hlt : o < E.size) (hy : aput (E.enc x) o [v] = E.enc y)
    (hk : k .und [(id, ownB E ty (l.set i y))]) : storeW P look t (.ptr id off) v k :=
  storeW_el hu hz hv (own_some hb h) h ho hlt hy (by rw [ownB_ne (set_ne h)] at hk; exact hk)
theorem storeW_aggO {t id off ty i sz : Nat} {l : List α} {x y : α} {cs : List AV} {k : AV → Wr → Prop} (hu : (P.underlying t).map isAggD = some true) (hz : tsize P t = some sz) (hs : E.size = sz) (hcs : cs = E.enc y) (hb : look id = ownB E ty l) (h : l[i]? = some x) (ho : off = i * sz)
    (hk : k .und [(id, ownB E ty (l.set i y))]) : storeW P look t (.ptr id off) (.agg cs) k :=
  storeW_agg hu hz hs hcs (own_some hb h) h ho (by rw [ownB_ne (set_ne h)] at hk; exact hk)
theorem mget_appW_n {m : Mem} {n id ty : Nat} {l xs : List α} {x : α} (h : n ≠ id) : mget (mpushs m (appW E n id ty l (x :: xs))) n = ownB E ty (l ++ x :: xs) := by
  have hb : Nat.beq id n = false := by
    cases hq : Nat.beq id n with
    | false => rfl
    | true => exact absurd (Nat.eq_of_beq_eq_true hq).symm h
  rw [ownB_ne (by simp)]
  cases l with
  | nil => simp only [appW, mpushs, mget, Nat.beq_refl, cond_true]
  | cons y l => simp only [appW, mpushs, mget, hb, cond_false, Nat.beq_refl, cond_true]
theorem mget_appW_o {m : Mem} {n id ty j : Nat} {l xs : List α} (h : n ≠ j) (h' : id ≠ j) : mget (mpushs m (appW E n id ty l xs)) j = mget m j := by
  have hb : Nat.beq id j = false := by
    cases hq : Nat.beq id j with
    | false => rfl
    | true => exact absurd (Nat.eq_of_beq_eq_true hq) h'
  have hn : Nat.beq n j = false := by
    cases hq : Nat.beq n j with
    | false => rfl
    | true => exact absurd (Nat.eq_of_beq_eq_true hq) h
  cases l with
  | nil => simp only [appW, mpushs, mget, hn, cond_false]
  | cons y l => simp only [appW, mpushs, mget, hb, hn, cond_false]
theorem mpushs_nil {m : Mem} : mpushs m [] = m := rfl
theorem mpushs_cons {m : Mem} {p : Nat × Option ABlk} {r : Wr} : mpushs m (p :: r) = mpushs (p :: m) r := rfl
theorem mget_hd {m : Mem} {j : Nat} {v : Option ABlk} : mget ((j, v) :: m) j = v := by simp only [mget, Nat.beq_refl, cond_true]
theorem mget_tl {m : Mem} {j i : Nat} {v : Option ABlk} (h : j ≠ i) : mget ((j, v) :: m) i = mget m i := by
  have : Nat.beq j i = false := by
    cases hq : Nat.beq j i with
    | false => rfl
    | true => exact absurd (Nat.eq_of_beq_eq_true hq) h
  simp only [mget, this, cond_false]
theorem len_ownL {id : Nat} {l l' : List α} (h : l.length = l'.length) : lenS (ownV E id l) = some (intA l'.length, []) := by rw [len_own, h]
theorem len_blkL {id : Nat} {l l' : List α} (h : l.length = l'.length) : lenS (blkV E id l) = some (intA l'.length, []) := by rw [len_blk, h]
theorem ldA_ptr {id off n : Nat} {b : ABlk} {x : AV} (hb : look id = some b) (h : partA n b.cells off = some x) : ldA look n (.ptr id off) = some (x, []) := by simp only [ldA, hb, h, Option.map_some]
theorem ldS_row {β : Type} {E2 : En β} {id ty off i j : Nat} {l : List α} {x : α} {l2 : List β} {y : β} {v : AV} (hb : look id = some ⟨encs E l, ty⟩) (h : l[i]? = some x) (hx : E.enc x = encs E2 l2) (ho : off = i * E.size + j * E2.size) (h2 : l2[j]? = some y) (hv : (E2.enc y)[0]? = some v) : ldS look (.ptr id off) = some (v, []) := by
  have hj := encs_bound (E := E2) h2
  rw [← hx, E.len] at hj
  have hp := E2.pos
  have e := encs_at (E := E2) h2 0 hp
  rw [← hx, Nat.add_zero] at e
  exact ldS_blk (o := j * E2.size) hb h ho (by omega) (e.trans hv)
theorem opA_index_agg {tt ty n len e sz : Nat} {l : List α} {x : α} {i : Int} {cs : List AV} (hu : P.underlying tt = some (.array len e)) (hz : tsize P e = some sz) (ha : (P.underlying e).map isAggD = some true) (hc : cs = encs E l) (hl : l.length = len ∧ E.size = sz) (h : getI l i = some x) : opA P (.index tt (.tmp 0) (.tmp 1)) ty [.agg cs, intA i] look n = some (.agg (E.enc x), []) := by
  obtain ⟨h0, h1, h2⟩ := getI_lt h
  obtain ⟨rfl, rfl⟩ := hl
  subst hc
  have e1 : decide (0 ≤ i) = true := by simpa using h0
  have e2 : decide (i < (l.length : Int)) = true := by simpa using h2
  have hble : Nat.ble (i.toNat * E.size + E.size) (encs E l).length = true := Nat.ble_eq_true_of_le (encs_bound (getI_some h).2)
  cases hd : P.underlying e with
  | none => rw [hd] at ha; cases ha
  | some d =>
    rw [hd] at ha
    simp only [Option.map_some, Option.some.injEq] at ha
    simp only [opA, aop, rhoV, List.getElem?_cons_zero, List.getElem?_cons_succ, aIndexV, hu, hz, e1, e2, Bool.and_self, cond_true, apart, hd, ha, hble, encs_part (getI_some h).2, Option.map_some]
theorem opA_index_sc {tt ty n len e : Nat} {l : List α} {x : α} {i : Int} {cs : List AV} {v : AV} (hu : P.underlying tt = some (.array len e)) (hz : tsize P e = some 1) (ha : (P.underlying e).map isAggD = some false) (hc : cs = encs E l) (hl : l.length = len ∧ E.size = 1) (h : getI l i = some x) (hv : (E.enc x)[0]? = some v) : opA P (.index tt (.tmp 0) (.tmp 1)) ty [.agg cs, intA i] look n = some (v, []) := by
  obtain ⟨h0, h1, h2⟩ := getI_lt h
  obtain ⟨rfl, h3⟩ := hl
  subst hc
  have e1 : decide (0 ≤ i) = true := by simpa using h0
  have e2 : decide (i < (l.length : Int)) = true := by simpa using h2
  have e3 := encs_at (E := E) (getI_some h).2 0 E.pos
  rw [h3, Nat.add_zero] at e3
  cases hd : P.underlying e with
  | none => rw [hd] at ha; cases ha
  | some d =>
    rw [hd] at ha
    simp only [Option.map_some, Option.some.injEq] at ha
    simp only [opA, aop, rhoV, List.getElem?_cons_zero, List.getElem?_cons_succ, aIndexV, hu, hz, e1, e2, Bool.and_self, cond_true, apart, hd, ha, cond_false, e3, hv, Option.map_some]
theorem byteCells_eq (s : ByteArray) : byteCells s = encs byteE s.data.toList := by
  simp only [byteCells, encs, byteE, byteA]
  induction s.data.toList with
  | nil => rfl
  | cons b l ih => simp only [List.map_cons, List.flatMap_cons, ih]; rfl
theorem opA_bytes {ts td e ty n : Nat} {s : ByteArray} {u : Unit} (h1 : P.underlying ts = some .string) (h2 : P.underlying td = some (.slice e)) (h3 : P.underlying e = some (.int .u8)) (h : roomO s.size 1 = some u) : opA P (.convert ts td (.tmp 0)) ty [strA s] look n = some (lstA byteE s.data.toList, []) := by
  obtain ⟨-, r2⟩ := room_some h
  have hb : Nat.ble s.size 4611686018427387904 = true := Nat.ble_eq_true_of_le r2
  have hl : s.size = s.data.toList.length := Array.length_toList.symm
  simp only [opA, aop, rhoV, aConv, List.getElem?_cons_zero, h1, h2, h3, hb, cond_true, byteCells_eq]
  rw [hl]
end
end Go.Proofs.Ytfhcciepaangiaa
