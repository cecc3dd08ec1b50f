/- Rules for stores, appends, results, arguments in the run's own memory, states at the head of a loop. -/
import Derived.Test.YtfhcciepaangiaaPi24
set_option linter.unusedVariables false
set_option linter.unusedSimpArgs false
namespace Go.Proofs.Ytfhcciepaangiaa
open Go.RowKit

/- what is checked before memory is taken -/
def roomO (k by_ : Nat) : Option Unit := if k * by_ ≤ 140737488355328 ∧ k ≤ 4611686018427387904 then some () else none
def makeO (l : Int) (by_ : Nat) : Option Nat := if 0 ≤ l ∧ l * (by_ : Int) ≤ 140737488355328 ∧ l ≤ 4611686018427387904 then some l.toNat else none
def sliceO {α : Type} (l : List α) (lo hi : Option Int) : Option (List α) :=
  let a := lo.getD 0
  let b := hi.getD l.length
  if 0 ≤ a ∧ a ≤ b ∧ b ≤ l.length then some ((l.drop a.toNat).take (b - a).toNat) else none
def divO (a b : Int) : Option Int := if b = 0 then none else some (a.tdiv b)
def modO (a b : Int) : Option Int := if b = 0 then none else some (a.tmod b)

section
variable {α : Type} {E : En α} {P : Program} {look : Nat → Option ABlk}
/- stores into an element -/
theorem storeW_el {t id off ty o i : Nat} {l : List α} {x y : α} {v : AV} {k : AV → Wr → Prop} (hu : (P.underlying t).map isAggD = some false) (hz : tsize P t = some 1) (hv : isCell v = true) (hb : look id = some ⟨encs E l, ty⟩) (h : l[i]? = some x) (ho : off = i * E.size + o) (hlt : o < E.size) (hy : aput (E.enc x) o [v] = E.enc y)
    (hk : k .und [(id, some ⟨encs E (l.set i y), ty⟩)]) : storeW P look t (.ptr id off) v k := by
  have hbd := encs_bound (E := E) h
  have hble : Nat.ble (off + [v].length) (encs E l).length = true := Nat.ble_eq_true_of_le (by simp; omega)
  simp only [storeW, hb, cellsW]
  cases hd : P.underlying t with
  | none => rw [hd] at hu; cases hu
  | some d =>
    rw [hd] at hu
    simp only [Option.map_some, Option.some.injEq] at hu
    simp only [hu, cond_false, hz, hv, chk_true, hble]
    rw [ho, encs_set_cell h (by simp; omega) hy]
    exact hk
theorem chkAll_of : ∀ {cs : List AV} {p : Prop}, cs.all isCell = true → p → chkAll cs p
  | [], _, _, h => h
  | c :: cs, p, hc, h => by
    simp only [List.all_cons, Bool.and_eq_true] at hc
    exact chk_of hc.1 (chkAll_of hc.2 h)
theorem storeW_agg {t id off ty i sz : Nat} {l : List α} {x y : α} {cs : List AV} {k : AV → Wr → Prop} (hu : (P.underlying t).map isAggD = some true) (hz : tsize P t = some sz) (hs : E.size = sz) (hcs : cs = E.enc y) (hb : look id = some ⟨encs E l, ty⟩) (h : l[i]? = some x) (ho : off = i * sz)
    (hk : k .und [(id, some ⟨encs E (l.set i y), ty⟩)]) : storeW P look t (.ptr id off) (.agg cs) k := by
  subst hs; subst hcs
  have hlt : i < l.length := by
    rcases Nat.lt_or_ge i l.length with h' | h'
    · exact h'
    · rw [List.getElem?_eq_none h'] at h; cases h
  have hbd := encs_bound (E := E) h
  have hble : Nat.ble (off + (E.enc y).length) (encs E l).length = true := Nat.ble_eq_true_of_le (by rw [E.len]; omega)
  have hl : Nat.beq (E.enc y).length E.size = true := by rw [E.len]; exact Nat.beq_refl _
  simp only [storeW, hb, cellsW]
  cases hd : P.underlying t with
  | none => rw [hd] at hu; cases hu
  | some d =>
    rw [hd] at hu
    simp only [Option.map_some, Option.some.injEq] at hu
    simp only [hu, cond_true, hz, hl, chk_true]
    refine chkAll_of (E.cell y) ?_
    simp only [hble, chk_true]
    rw [ho, encs_set y hlt]
    exact hk
/- stores into cells that are known -/
theorem storeW_cell {t id off ty : Nat} {cs cs' : List AV} {v : AV} {k : AV → Wr → Prop} (hu : (P.underlying t).map isAggD = some false) (hz : tsize P t = some 1) (hv : isCell v = true) (hb : look id = some ⟨cs, ty⟩) (hle : Nat.ble (off + 1) cs.length = true) (hc : aput cs off [v] = cs')
    (hk : k .und [(id, some ⟨cs', ty⟩)]) : storeW P look t (.ptr id off) v k := by
  have hble : Nat.ble (off + [v].length) cs.length = true := hle
  simp only [storeW, hb, cellsW]
  cases hd : P.underlying t with
  | none => rw [hd] at hu; cases hu
  | some d =>
    rw [hd] at hu
    simp only [Option.map_some, Option.some.injEq] at hu
    simp only [hu, cond_false, hz, hv, chk_true, hble, hc]
    exact hk
theorem storeW_cells {t id off ty sz : Nat} {cs cs' vs : List AV} {k : AV → Wr → Prop} (hu : (P.underlying t).map isAggD = some true) (hz : tsize P t = some sz) (hl : Nat.beq vs.length sz = true) (hv : vs.all isCell = true) (hb : look id = some ⟨cs, ty⟩) (hle : Nat.ble (off + vs.length) cs.length = true) (hc : aput cs off vs = cs')
    (hk : k .und [(id, some ⟨cs', ty⟩)]) : storeW P look t (.ptr id off) (.agg vs) k := by
  simp only [storeW, hb, cellsW]
  cases hd : P.underlying t with
  | none => rw [hd] at hu; cases hu
  | some d =>
    rw [hd] at hu
    simp only [Option.map_some, Option.some.injEq] at hu
    simp only [hu, cond_true, hz, hl, chk_true]
    refine chkAll_of hv ?_
    simp only [hle, chk_true, hc]
    exact hk
theorem boxW_cell {t n : Nat} {v : AV} {k : AV → Wr → Prop} (hu : (P.underlying t).map isAggD = some false) (hz : tsize P t = some 1) (hv : isCell v = true) (hk : k (.ptr n 0) [(n, some ⟨[v], t⟩)]) : boxW P t n v k := by
  simp only [boxW, cellsW]
  cases hd : P.underlying t with
  | none => rw [hd] at hu; cases hu
  | some d =>
    rw [hd] at hu
    simp only [Option.map_some, Option.some.injEq] at hu
    simp only [hu, cond_false, hz, hv, chk_true]
    exact hk
theorem boxW_agg {t n sz : Nat} {cs : List AV} {k : AV → Wr → Prop} (hu : (P.underlying t).map isAggD = some true) (hz : tsize P t = some sz) (hl : Nat.beq cs.length sz = true) (hv : cs.all isCell = true) (hk : k (.ptr n 0) [(n, some ⟨cs, t⟩)]) : boxW P t n (.agg cs) k := by
  simp only [boxW, cellsW]
  cases hd : P.underlying t with
  | none => rw [hd] at hu; cases hu
  | some d =>
    rw [hd] at hu
    simp only [Option.map_some, Option.some.injEq] at hu
    simp only [hu, cond_true, hz, hl, chk_true]
    exact chkAll_of hv hk
/- what a slice has -/
theorem cellsOf_lst {sz : Nat} (hs : E.size = sz) (l : List α) (ex : Bool) : cellsOf look sz (.lst l.length (encs E l) ex) = some (l.length, encs E l) := by
  subst hs
  simp only [cellsOf, encs_length, Nat.beq_refl, cond_true]
theorem cellsOf_sl {sz id n cap : Nat} {ex : Bool} {ty : Nat} {l : List α} (hs : E.size = sz) (hn : n = l.length) (hb : look id = some ⟨encs E l, ty⟩) : cellsOf look sz (.sl id 0 sz n cap ex) = some (l.length, encs E l) := by
  subst hs; subst hn
  have : Nat.ble (0 + l.length * E.size) (encs E l).length = true := Nat.ble_eq_true_of_le (by rw [encs_length]; omega)
  simp only [cellsOf, hb, this, Nat.beq_refl, Bool.and_self, cond_true, List.drop_zero]
  rw [List.take_of_length_le (by rw [encs_length]; exact Nat.le_refl _)]
theorem cellsOf_own {sz id ty : Nat} {l l' : List α} (hs : E.size = sz) (hl : l.length = l'.length) (hb : l' ≠ [] → look id = some ⟨encs E l', ty⟩) : cellsOf look sz (ownV E id l) = some (l'.length, encs E l') := by
  cases l with
  | nil =>
    have : l' = [] := List.eq_nil_of_length_eq_zero hl.symm
    subst this
    simp [ownV, cellsOf, encs]
  | cons x l =>
    have hne : l' ≠ [] := by rintro rfl; simp at hl
    have hb := hb hne
    subst hs
    exact cellsOf_sl rfl hl hb
theorem cellsOf_blk {sz id ty : Nat} {l l' : List α} (hs : E.size = sz) (hl : l.length = l'.length) (hb : look id = some ⟨encs E l', ty⟩) : cellsOf look sz (blkV E id l) = some (l'.length, encs E l') := by
  subst hs
  exact cellsOf_sl rfl hl hb
theorem cellsOf_nils {sz : Nat} : cellsOf look sz .nils = some (([] : List α).length, encs E []) := rfl
theorem room_some {k by_ : Nat} {u : Unit} (h : roomO k by_ = some u) : k * by_ ≤ 140737488355328 ∧ k ≤ 4611686018427387904 := by
  unfold roomO at h
  split at h
  · assumption
  · cases h
/- an append of elements to a slice of one's own: the old block, if there is one, is given up -/
def appW (E : En α) (n id ty : Nat) (l xs : List α) : Wr := match l with
  | [] => [(n, some ⟨encs E (l ++ xs), ty⟩)]
  | _ :: _ => [(n, some ⟨encs E (l ++ xs), ty⟩), (id, none)]
theorem app_own {sz by_ n id ty : Nat} {zs : List AV} {l l' xs : List α} {x : AV} {u : Unit} (hs : E.size = sz) (hz : Nat.beq zs.length sz = true) (hx : cellsOf look sz x = some (xs.length, encs E xs)) (hne : xs ≠ []) (hl : l.length = l'.length) (hb : l' ≠ [] → look id = some ⟨encs E l', ty⟩) (hr : roomO (l'.length + xs.length) by_ = some u) :
    app look ty sz by_ zs n (ownV E id l) x = some (ownV E n (l' ++ xs), appW E n id ty l' xs) := by
  obtain ⟨r1, r2⟩ := room_some hr
  have hx0 : Nat.beq xs.length 0 = false := by
    cases h : Nat.beq xs.length 0 with
    | false => rfl
    | true => exact absurd (List.eq_nil_of_length_eq_zero (Nat.eq_of_beq_eq_true h)) hne
  have hne2 : l' ++ xs ≠ [] := by simp [hne]
  have t2 : Nat.ble ((l'.length + xs.length) * by_) 140737488355328 = true := Nat.ble_eq_true_of_le r1
  have t3 : Nat.ble (l'.length + xs.length) 4611686018427387904 = true := Nat.ble_eq_true_of_le r2
  have t5 : Nat.ble 1 sz = true := by rw [← hs]; exact Nat.ble_eq_true_of_le E.pos
  have t6 : Nat.beq (encs E xs).length (xs.length * sz) = true := by rw [encs_length, hs]; exact Nat.beq_refl _
  have t7 : Nat.beq (encs E l').length (l'.length * sz) = true := by rw [encs_length, hs]; exact Nat.beq_refl _
  have hcell := encs_cell (E := E) xs
  have hc := cellsOf_own (look := look) (sz := sz) (id := id) (ty := ty) hs hl hb
  rw [ownV_ne hne2]
  unfold app
  rw [hx]
  simp only [hx0, cond_false]
  rw [hc]
  simp only [t2, t3, hz, t5, hcell, t6, t7, Bool.and_self, cond_true]
  subst hs
  cases l' with
  | nil =>
    have hl0 : l = [] := List.eq_nil_of_length_eq_zero hl
    subst hl0
    simp only [ownV, appW, List.nil_append, List.length_nil, Nat.zero_add, encs_nil]
  | cons y l' =>
    have hl0 : l ≠ [] := by rintro rfl; simp at hl
    rw [ownV_ne hl0, hl]
    have hlen : 0 < xs.length := List.length_pos_iff.2 hne
    have t8 : Nat.ble ((y :: l').length + xs.length) (y :: l').length = false := by
      cases h : Nat.ble ((y :: l').length + xs.length) (y :: l').length with
      | false => rfl
      | true => have := Nat.le_of_ble_eq_true h; omega
    have hb' : look id = some ⟨encs E (y :: l'), ty⟩ := hb (by simp)
    simp only [t8, cond_false, hb', Nat.beq_refl, Bool.and_self, cond_true, appW, encs_append, List.length_append]
theorem app_nils {sz by_ n ty : Nat} {zs : List AV} {xs : List α} {x : AV} {u : Unit} (hs : E.size = sz) (hz : Nat.beq zs.length sz = true) (hx : cellsOf look sz x = some (xs.length, encs E xs)) (hne : xs ≠ []) (hr : roomO xs.length by_ = some u) :
    app look ty sz by_ zs n .nils x = some (ownV E n xs, [(n, some ⟨encs E xs, ty⟩)]) := by
  obtain ⟨r1, r2⟩ := room_some hr
  have hx0 : Nat.beq xs.length 0 = false := by
    cases h : Nat.beq xs.length 0 with
    | false => rfl
    | true => exact absurd (List.eq_nil_of_length_eq_zero (Nat.eq_of_beq_eq_true h)) hne
  have t2 : Nat.ble (xs.length * by_) 140737488355328 = true := Nat.ble_eq_true_of_le r1
  have t3 : Nat.ble xs.length 4611686018427387904 = true := Nat.ble_eq_true_of_le (by omega)
  have t5 : Nat.ble 1 sz = true := by rw [← hs]; exact Nat.ble_eq_true_of_le E.pos
  have t6 : Nat.beq (encs E xs).length (xs.length * sz) = true := by rw [encs_length, hs]; exact Nat.beq_refl _
  have t7 : Nat.beq ([] : List AV).length (0 * sz) = true := by rw [Nat.zero_mul]; rfl
  have hcell := encs_cell (E := E) xs
  rw [ownV_ne hne]
  unfold app
  rw [hx]
  simp only [hx0, cond_false, cellsOf, Nat.zero_add, List.nil_append, t2, t3, hz, t5, hcell, t6, t7, Bool.and_self, cond_true]
  subst hs
  rfl
theorem rep_encs {zs : List AV} {z : α} (hz : zs = E.enc z) (k : Nat) : rep zs k = encs E (List.replicate k z) := by
  subst hz
  induction k with
  | zero => rfl
  | succ k ih => rw [rep, ih, List.replicate_succ, encs_cons]
theorem mks_ok {n e sz by_ : Nat} {zs : List AV} {l : Int} {k : Nat} {z : α} (hs : E.size = sz) (hz : zs = E.enc z) (h : makeO l by_ = some k) : mks n e sz by_ zs (intA l) (intA l) = some (blkV E n (List.replicate k z), [(n, some ⟨encs E (List.replicate k z), e⟩)]) := by
  unfold makeO at h
  split at h
  · rename_i hc
    obtain ⟨h1, h2, h3⟩ := hc
    have hk := Option.some.inj h
    have e1 : decide (0 ≤ l) = true := by simpa using h1
    have e2 : decide (l ≤ l) = true := by simp
    have e3 : decide (l * (by_ : Int) ≤ 140737488355328) = true := by simpa using h2
    have e4 : decide (l ≤ 4611686018427387904) = true := by simpa using h3
    have e5 : Nat.beq zs.length sz = true := by rw [hz, E.len, hs]; exact Nat.beq_refl _
    have e6 : Nat.ble 1 sz = true := by rw [← hs]; exact Nat.ble_eq_true_of_le E.pos
    simp only [mks, e1, e2, e3, e4, e5, e6, Bool.and_self, cond_true, hk, rep_encs hz, blkV, List.length_replicate, hs]
  · cases h
/- parts of slices that lie still -/
theorem bnd_int {d : Nat} {a : Int} (h : 0 ≤ a) : bnd d (some (intA a)) = some a.toNat := by
  have : decide (0 ≤ a) = true := by simpa using h
  simp only [bnd, this, cond_true]
theorem slcS_ok {sz : Nat} (hs : E.size = sz) {l y : List α} {lo hi : Option Int} {ex : Bool} (h : sliceO l lo hi = some y) : slcS sz (.lst l.length (encs E l) ex) (lo.map intA) (hi.map intA) none = some (lstA E y, []) := by
  subst hs
  unfold sliceO at h
  simp only at h
  split at h
  · rename_i hc
    obtain ⟨h1, h2, h3⟩ := hc
    have hy := Option.some.inj h
    have b1 : bnd 0 (lo.map intA) = some (lo.getD 0).toNat := by
      cases lo with
      | none => rfl
      | some a => exact bnd_int h1
    have b2 : bnd l.length (hi.map intA) = some (hi.getD (l.length : Int)).toNat := by
      cases hi with
      | none => simp [bnd]
      | some b => exact bnd_int (by simp only [Option.getD_some] at h2 h3 ⊢; omega)
    have e1 : Nat.ble (lo.getD 0).toNat (hi.getD (l.length : Int)).toNat = true := Nat.ble_eq_true_of_le (by omega)
    have e2 : Nat.ble (hi.getD (l.length : Int)).toNat l.length = true := Nat.ble_eq_true_of_le (by omega)
    have e3 : Nat.ble l.length l.length = true := Nat.ble_eq_true_of_le (Nat.le_refl _)
    have e4 : Nat.beq (encs E l).length (l.length * E.size) = true := by rw [encs_length]; exact Nat.beq_refl _
    have e5 : (hi.getD (l.length : Int)).toNat - (lo.getD 0).toNat = (hi.getD (l.length : Int) - lo.getD 0).toNat := by omega
    have e6 : (encs E l).drop ((lo.getD 0).toNat * E.size) = encs E (l.drop (lo.getD 0).toNat) := encs_drop l _
    have b3 : bnd l.length (none : Option AV) = some l.length := rfl
    have ly : y.length = (hi.getD (l.length : Int) - lo.getD 0).toNat := by
      rw [← hy, List.length_take, List.length_drop]; omega
    simp only [slcS, b1, b2, b3, e1, e2, e3, e4, Bool.and_self, Option.isSome_none, Bool.false_and, Bool.not_false, cond_true, e5, e6, encs_take, hy]
    rw [← ly]
  · cases h
theorem opA_slice {t yt ty n e sz : Nat} (hu : P.underlying t = some (.slice e)) (hz : tsize P e = some sz) {k : Nat} {cs : List AV} {ex : Bool} {a b : AV} :
    opA P (.slice t (.tmp 0) (some (.tmp 1)) none none) ty [.lst k cs ex, a] look n = slcS sz (.lst k cs ex) (some a) none none ∧ opA P (.slice t (.tmp 0) none (some (.tmp 1)) none) ty [.lst k cs ex, a] look n = slcS sz (.lst k cs ex) none (some a) none ∧ opA P (.slice t (.tmp 0) (some (.tmp 1)) (some (.tmp 2)) none) ty [.lst k cs ex, a, b] look n = slcS sz (.lst k cs ex) (some a) (some b) none := by
  refine ⟨?_, ?_, ?_⟩ <;> (simp [opA, aop, rhoV, aSlice, hu, hz, slcS]; rfl)
theorem slc_lo {t ty n e sz : Nat} (hu : P.underlying t = some (.slice e)) (hz : tsize P e = some sz) (hs : E.size = sz) {l y : List α} {a : Int} {ex : Bool} (h : sliceO l (some a) none = some y) : opA P (.slice t (.tmp 0) (some (.tmp 1)) none none) ty [.lst l.length (encs E l) ex, intA a] look n = some (lstA E y, []) :=
  ((opA_slice (yt := 0) (a := intA a) (b := intA a) hu hz).1).trans (slcS_ok hs h)
theorem slc_hi {t ty n e sz : Nat} (hu : P.underlying t = some (.slice e)) (hz : tsize P e = some sz) (hs : E.size = sz) {l y : List α} {a : Int} {ex : Bool} (h : sliceO l none (some a) = some y) : opA P (.slice t (.tmp 0) none (some (.tmp 1)) none) ty [.lst l.length (encs E l) ex, intA a] look n = some (lstA E y, []) :=
  ((opA_slice (yt := 0) (a := intA a) (b := intA a) hu hz).2.1).trans (slcS_ok hs h)
theorem slc_both {t ty n e sz : Nat} (hu : P.underlying t = some (.slice e)) (hz : tsize P e = some sz) (hs : E.size = sz) {l y : List α} {a b : Int} {ex : Bool} (h : sliceO l (some a) (some b) = some y) : opA P (.slice t (.tmp 0) (some (.tmp 1)) (some (.tmp 2)) none) ty [.lst l.length (encs E l) ex, intA a, intA b] look n = some (lstA E y, []) :=
  ((opA_slice (yt := 0) (a := intA a) (b := intA b) hu hz).2.2).trans (slcS_ok hs h)
/- division -/
theorem opA_quo {k : IntKind} {t ty yt n : Nat} {a b c : Int} (h : divO a b = some c) : opA P (.binOp .quo t (.tmp 0) (.tmp 1) yt) ty [.sc (.int k a), .sc (.int k b)] look n = some (.sc (.int k (k.wrap c)), []) := by
  unfold divO at h
  split at h
  · cases h
  · rename_i hb
    have := Option.some.inj h
    exact opA_bin (by simp [fastBin, hb, this])
theorem opA_rem {k : IntKind} {t ty yt n : Nat} {a b c : Int} (h : modO a b = some c) : opA P (.binOp .rem t (.tmp 0) (.tmp 1) yt) ty [.sc (.int k a), .sc (.int k b)] look n = some (.sc (.int k c), []) := by
  unfold modO at h
  split at h
  · cases h
  · rename_i hb
    have := Option.some.inj h
    exact opA_bin (by simp [fastBin, hb, this])

/- results at rest -/
def Fz (k : Nat) (m : Mem) (a v : AV) : Prop := (freeze (mget m) k a).map norm = some v
variable {m : Mem}
theorem fz_sc (k : Nat) (v : Value) : Fz (k + 1) m (.sc v) (.sc v) := rfl
theorem fz_lst (k : Nat) (l : List α) (ex : Bool) : Fz (k + 1) m (.lst l.length (encs E l) ex) (lstA E l) := by
  have : clean (.lst l.length (encs E l) ex) = true := by simp [clean, encs_clean]
  simp only [Fz, freeze, this, cond_true, Option.map_some, norm, encs_norm]
theorem fz_nils (k : Nat) : Fz (k + 1) m .nils (lstA E []) := rfl
theorem fz_sl (k : Nat) {id n cap ty : Nat} {ex : Bool} {l : List α} (hn : n = l.length) (hb : mget m id = some ⟨encs E l, ty⟩) : Fz (k + 2) m (.sl id 0 E.size n cap ex) (lstA E l) := by
  subst hn
  have h1 : Nat.ble (0 + l.length * E.size) (encs E l).length = true := Nat.ble_eq_true_of_le (by rw [encs_length]; omega)
  have h2 : ((encs E l).drop 0).take (l.length * E.size) = encs E l := by
    rw [List.drop_zero, List.take_of_length_le (by rw [encs_length]; exact Nat.le_refl _)]
  simp only [Fz, freeze, hb, h1, cond_true, h2, mapO_clean (mget m) k (encs E l) (encs_cell l) (encs_clean l), Option.map_some, norm, encs_norm]
theorem fz_own (k : Nat) {id ty : Nat} {l l' : List α} (hl : l.length = l'.length) (hb : mget m id = ownB E ty l') : Fz (k + 2) m (ownV E id l) (lstA E l') := by
  cases l with
  | nil =>
    have : l' = [] := List.eq_nil_of_length_eq_zero hl.symm
    subst this; rfl
  | cons x l =>
    have hne : l' ≠ [] := by rintro rfl; simp at hl
    rw [ownB_ne hne] at hb
    exact fz_sl k hl hb
theorem fz_blk (k : Nat) {id ty : Nat} {l l' : List α} (hl : l.length = l'.length) (hb : mget m id = some ⟨encs E l', ty⟩) : Fz (k + 2) m (blkV E id l) (lstA E l') := fz_sl k hl hb
def FzL (k : Nat) (m : Mem) : List AV → List AV → Prop
  | [], [] => True
  | a :: r, v :: s => Fz k m a v ∧ FzL k m r s
  | _, _ => False
theorem fzL_map (k : Nat) : ∀ {us vs : List AV}, FzL k m us vs → ∃ ws, mapO (freeze (mget m) k) us = some ws ∧ norms ws = vs
  | [], [], _ => ⟨[], rfl, rfl⟩
  | a :: r, v :: s, ⟨h, t⟩ => by
    obtain ⟨ws, h1, h2⟩ := fzL_map k t
    obtain ⟨u, h3, h4⟩ := Option.map_eq_some_iff.1 h
    exact ⟨u :: ws, by simp only [mapO, h3, h1], by simp only [norms, h4, h2]⟩
  | [], _ :: _, h => h.elim
  | _ :: _, [], h => h.elim
theorem fz_tup (k : Nat) {us vs : List AV} (h : FzL k m us vs) : Fz (k + 1) m (.tup us) (.tup vs) := by
  obtain ⟨ws, h1, h2⟩ := fzL_map k h
  simp only [Fz, freeze, h1, Option.map_some, norm, h2]
theorem fz_agg (k : Nat) {us vs : List AV} (h : FzL k m us vs) : Fz (k + 1) m (.agg us) (.agg vs) := by
  obtain ⟨ws, h1, h2⟩ := fzL_map k h
  simp only [Fz, freeze, h1, Option.map_some, norm, h2]
theorem fz_el (k : Nat) (x : α) : Fz (k + 2) m (.agg (E.enc x)) (.agg (E.enc x)) := by
  simp only [Fz, freeze, mapO_clean (mget m) k (E.enc x) (E.cell x) (E.cln x), Option.map_some, norm, E.nrm]
theorem ret1 {R : AV → Mem → Prop} {a v : AV} (hR : ∀ u m, Ans v u m → R u m) (h : Fz 6 m a v) : retL R m [some a] := hR a m h
theorem retN {R : AV → Mem → Prop} {a b : AV} {r : List AV} {vs : List AV} {os : List (Option AV)} (ho : seqL os = some (a :: b :: r)) (hR : ∀ u m, Ans (.tup vs) u m → R u m) (h : FzL 5 m (a :: b :: r) vs) : retL R m os := by
  simp only [retL, ho, mkRes]
  exact hR _ m (fz_tup 5 h)

/- arguments us they read now -/
def Sn (m : Nat → Option ABlk) (k : Nat) (a v : AV) : Prop := (snap m k a).map norm = some v
def SnL (m : Nat → Option ABlk) (k : Nat) : List AV → List AV → Prop
  | [], [] => True
  | a :: r, v :: s => Sn m k a v ∧ SnL m k r s
  | _, _ => False
theorem snL_map (k : Nat) : ∀ {us vs : List AV}, SnL look k us vs → ∃ ws, mapO (snap look k) us = some ws ∧ norms ws = vs
  | [], [], _ => ⟨[], rfl, rfl⟩
  | a :: r, v :: s, ⟨h, t⟩ => by
    obtain ⟨ws, h1, h2⟩ := snL_map k t
    obtain ⟨u, h3, h4⟩ := Option.map_eq_some_iff.1 h
    exact ⟨u :: ws, by simp only [mapO, h3, h1], by simp only [norms, h4, h2]⟩
  | [], _ :: _, h => h.elim
  | _ :: _, [], h => h.elim
theorem sn_sc (k : Nat) (v : Value) : Sn look (k + 1) (.sc v) (.sc v) := rfl
theorem sn_nils (k : Nat) : Sn look (k + 1) .nils (lstA E []) := rfl
theorem sn_lst (k : Nat) (l : List α) (ex : Bool) : Sn look (k + 1) (.lst l.length (encs E l) ex) (lstA E l) := by
  have : clean (.lst l.length (encs E l) ex) = true := by simp [clean, encs_clean]
  simp only [Sn, snap, this, cond_true, Option.map_some, norm, encs_norm]
def NoFn (E : En α) : Prop := ∀ x, ∀ c ∈ E.enc x, ∀ f l, c ≠ .fn f l
theorem sn_sl (k : Nat) (hE : NoFn E) {id n cap ty : Nat} {ex : Bool} {l : List α} (hn : n = l.length) (hb : look id = some ⟨encs E l, ty⟩) : Sn look (k + 2) (.sl id 0 E.size n cap ex) (lstA E l) := by
  subst hn
  have h1 : Nat.ble (0 + l.length * E.size) (encs E l).length = true := Nat.ble_eq_true_of_le (by rw [encs_length]; omega)
  have h2 : ((encs E l).drop 0).take (l.length * E.size) = encs E l := by
    rw [List.drop_zero, List.take_of_length_le (by rw [encs_length]; exact Nat.le_refl _)]
  have h3 : ∀ x ∈ encs E l, ∀ f c, x ≠ .fn f c := by
    intro x hx
    simp only [encs, List.mem_flatMap] at hx
    obtain ⟨y, -, hy⟩ := hx
    exact hE y x hy
  simp only [Sn, snap, hb, h1, cond_true, h2, snap_clean look k (encs E l) (encs_cell l) h3 (encs_clean l), Option.map_some, norm, encs_norm]
theorem sn_own (k : Nat) (hE : NoFn E) {id ty : Nat} {l l' : List α} (hl : l.length = l'.length) (hb : look id = ownB E ty l') : Sn look (k + 2) (ownV E id l) (lstA E l') := by
  cases l with
  | nil =>
    have : l' = [] := List.eq_nil_of_length_eq_zero hl.symm
    subst this; rfl
  | cons x l =>
    have hne : l' ≠ [] := by rintro rfl; simp at hl
    rw [ownB_ne hne] at hb
    exact sn_sl k hE hl hb
theorem sn_blk (k : Nat) (hE : NoFn E) {id ty : Nat} {l l' : List α} (hl : l.length = l'.length) (hb : look id = some ⟨encs E l', ty⟩) : Sn look (k + 2) (blkV E id l) (lstA E l') := sn_sl k hE hl hb
theorem sn_agg (k : Nat) {us vs : List AV} (h : SnL look k us vs) : Sn look (k + 1) (.agg us) (.agg vs) := by
  obtain ⟨ws, h1, h2⟩ := snL_map k h
  simp only [Sn, snap, h1, Option.map_some, norm, h2]
theorem sn_fn (k : Nat) (f : FuncId) {us vs : List AV} (h : SnL look k us vs) : Sn look (k + 1) (.fn f us) (.fn f vs) := by
  obtain ⟨ws, h1, h2⟩ := snL_map k h
  simp only [Sn, snap, h1, Option.map_some, norm, h2]
theorem sn_ptr (k : Nat) {id off ty : Nat} {us vs : List AV} (hb : look id = some ⟨us, ty⟩) (h : SnL look k us vs) : Sn look (k + 1) (.ptr id off) (.ept vs off) := by
  obtain ⟨ws, h1, h2⟩ := snL_map k h
  simp only [Sn, snap, hb, h1, Option.map_some, norm, h2]
theorem sn_ept (k : Nat) (off : Nat) {cs : List AV} (h : cleans cs = true) (h' : norms cs = cs) : Sn look (k + 1) (.ept cs off) (.ept cs off) := by
  have : clean (.ept cs off) = true := by simpa [clean] using h
  simp only [Sn, snap, this, cond_true, Option.map_some, norm, h']
end
end Go.Proofs.Ytfhcciepaangiaa
