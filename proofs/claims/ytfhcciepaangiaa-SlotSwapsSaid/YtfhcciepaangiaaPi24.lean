/- From plain functional programs to the conditions: rules, one for each kind of operation. -/
import Derived.Test.YtfhcciepaangiaaPi22
set_option linter.unusedVariables false
set_option linter.unusedSimpArgs false
namespace Go.Proofs.Ytfhcciepaangiaa
open Go.RowKit

/- plain functional programs: lists at an index, loops -/
def getI {α : Type} (l : List α) (i : Int) : Option α := if 0 ≤ i then l[i.toNat]? else none
def iterO {σ ρ : Type} (S : σ → Option (σ ⊕ ρ)) : Nat → σ → Option ρ
  | 0, _ => none
  | k + 1, x => match S x with
    | none => none
    | some (.inl y) => iterO S k y
    | some (.inr r) => some r
theorem iterO_elim {σ ρ : Type} {S : σ → Option (σ ⊕ ρ)} {k : Nat} {x : σ} {t : ρ} (h : iterO S (k + 1) x = some t) : ∃ u, S x = some u ∧ (∀ y, u = .inl y → iterO S k y = some t) ∧ (∀ r, u = .inr r → r = t) := by
  unfold iterO at h
  split at h
  · cases h
  · rename_i y hy
    exact ⟨_, hy, (fun z hz => by cases hz; exact h), (fun r hr => by cases hr)⟩
  · rename_i r hy
    exact ⟨_, hy, (fun z hz => by cases hz), (fun q hq => by cases hq; exact Option.some.inj h)⟩
theorem iterO_zero {σ ρ : Type} {S : σ → Option (σ ⊕ ρ)} {x : σ} {t : ρ} (h : iterO S 0 x = some t) : False := by simp [iterO] at h

/- values of other kinds -/
def intE : En Int where
  size := 1
  enc z := [intA z]
  len _ := rfl
  pos := by decide
  cell _ := rfl
  cln _ := rfl
  nrm _ := rfl
def strE : En ByteArray where
  size := 1
  enc z := [strA z]
  len _ := rfl
  pos := by decide
  cell _ := rfl
  cln _ := rfl
  nrm _ := rfl
def boolE : En Bool where
  size := 1
  enc z := [boolA z]
  len _ := rfl
  pos := by decide
  cell _ := rfl
  cln _ := rfl
  nrm _ := rfl
theorem lstA_clean {α : Type} (E : En α) (l : List α) : clean (lstA E l) = true := by simp [clean, encs_clean]
theorem lstA_norm {α : Type} (E : En α) (l : List α) : norm (lstA E l) = lstA E l := by simp [norm, encs_norm]
def lstE {α : Type} (E : En α) : En (List α) where
  size := 1
  enc l := [lstA E l]
  len _ := rfl
  pos := by decide
  cell _ := rfl
  cln l := by simp [cleans, lstA_clean]
  nrm l := by simp [norms, lstA_norm]
/- a slice of the run's own -/
def ownV {α : Type} (E : En α) (id : Nat) (l : List α) : AV := match l with
  | [] => .lst 0 [] true
  | _ :: _ => .sl id 0 E.size l.length l.length false
def ownB {α : Type} (E : En α) (ty : Nat) (l : List α) : Option ABlk := match l with
  | [] => none
  | _ :: _ => some ⟨encs E l, ty⟩
/- a slice of the run's own that has a block in any case -/
def blkV {α : Type} (E : En α) (id : Nat) (l : List α) : AV := .sl id 0 E.size l.length l.length true

section
variable {α : Type} {E : En α} {ρ : Type} {t : ρ}
theorem cond_b {c : Bool} {a b : Option ρ} {X Y : Prop} (h1 : c = true → a = some t → X) (h2 : c = false → b = some t → Y) : (bif c then a else b) = some t → bif c then X else Y := by
  cases c
  · exact h2 rfl
  · exact h1 rfl
theorem spl_b {c : Bool} {a b : Option ρ} {X Y : Prop} (h1 : c = true → a = some t → X) (h2 : c = false → b = some t → Y) : (bif c then a else b) = some t → spl (.sc (.bool c)) X Y := by
  cases c
  · exact h2 rfl
  · exact h1 rfl
theorem bind_b {β : Type} {o : Option β} {f : β → Option ρ} {X : Prop} (h : ∀ x, o = some x → f x = some t → X) : o.bind f = some t → X := by
  cases o with
  | none => intro h'; cases h'
  | some x => exact h x rfl
theorem opP_of {r : Res} {v : AV} {k : AV → Prop} (h : r = some (v, [])) (hk : k v) : opP r k := by subst h; exact hk
theorem opM_of {r : Res} {v : AV} {d : Wr} {k : AV → Wr → Prop} (h : r = some (v, d)) (hk : k v d) : opM r k := by subst h; exact hk
theorem opN_of {r : Res} {v : AV} {d : Wr} {m : Mem} {k : AV → Mem → Prop} (h : r = some (v, d)) (hk : k v (mpushs m d)) : opN r m k := by subst h; exact hk
theorem chk_of {b : Bool} {p : Prop} (h : b = true) (hp : p) : chk b p := by subst h; exact hp
theorem ex_i64_b {z : Int} {k : Int → Prop} (h : k z) : ex_i64 (.sc (.int .i64 z)) k := h
theorem ex_u64_b {z : Int} {k : Int → Prop} (h : k z) : ex_u64 (.sc (.int .u64 z)) k := h
theorem ex_u8_b {z : Int} {k : Int → Prop} (h : k z) : ex_u8 (.sc (.int .u8 z)) k := h
theorem ex_u32_b {z : Int} {k : Int → Prop} (h : k z) : ex_u32 (.sc (.int .u32 z)) k := h
theorem ex_i32_b {z : Int} {k : Int → Prop} (h : k z) : ex_i32 (.sc (.int .i32 z)) k := h
theorem exB_b {z : Bool} {k : Bool → Prop} (h : k z) : exB (.sc (.bool z)) k := h
theorem exStr_b {z : ByteArray} {k : ByteArray → Prop} (h : k z) : exStr (.sc (.string z)) k := h
theorem fnArgs_b {f : FuncId} {caps ar : List AV} {k : FuncId → List AV → Prop} (h : k f (ar ++ caps)) : fnArgs (some (.fn f caps)) (some ar) k := h
/- lists -/
theorem getI_some {l : List α} {i : Int} {x : α} (h : getI l i = some x) : 0 ≤ i ∧ l[i.toNat]? = some x := by
  unfold getI at h
  split at h
  · rename_i h0; exact ⟨h0, h⟩
  · cases h
theorem getI_lt {l : List α} {i : Int} {x : α} (h : getI l i = some x) : 0 ≤ i ∧ i.toNat < l.length ∧ i < (l.length : Int) := by
  obtain ⟨h0, h1⟩ := getI_some h
  have : i.toNat < l.length := by
    rcases Nat.lt_or_ge i.toNat l.length with h | h
    · exact h
    · rw [List.getElem?_eq_none h] at h1; cases h1
  exact ⟨h0, this, by omega⟩
theorem getI_nat (l : List α) (i : Nat) : getI l (i : Int) = l[i]? := by simp [getI]
theorem idx_lst {sz : Nat} (hs : E.size = sz) {l : List α} {ex : Bool} {i : Int} {x : α} (h : getI l i = some x) : idxS sz (.lst l.length (encs E l) ex) (intA i) = some (.ept (E.enc x) 0, []) := by
  obtain ⟨h0, h1, h2⟩ := getI_lt h
  have e : (i.toNat : Int) = i := Int.toNat_of_nonneg h0
  have hx : l[i.toNat] = x := by
    have := (getI_some h).2
    rw [List.getElem?_eq_getElem h1] at this
    exact Option.some.inj this
  have := idxS_lst (E := E) hs l ex i.toNat h1
  rw [e, hx] at this
  exact this
theorem ownV_ne {id : Nat} {l : List α} (h : l ≠ []) : ownV E id l = .sl id 0 E.size l.length l.length false := by
  cases l with
  | nil => exact absurd rfl h
  | cons x l => rfl
theorem ownB_ne {ty : Nat} {l : List α} (h : l ≠ []) : ownB E ty l = some ⟨encs E l, ty⟩ := by
  cases l with
  | nil => exact absurd rfl h
  | cons x l => rfl
theorem getI_ne {l : List α} {i : Int} {x : α} (h : getI l i = some x) : l ≠ [] := by
  rintro rfl
  have := (getI_lt h).2.1
  simp at this
theorem idx_sl {sz : Nat} {l : List α} {i : Int} {x : α} {id off esz n cap : Nat} {ex : Bool} (hn : n = l.length) (h : getI l i = some x) : idxS sz (.sl id off esz n cap ex) (intA i) = some (.ptr id (off + i.toNat * sz), []) := by
  obtain ⟨h0, h1, h2⟩ := getI_lt h
  subst hn
  have e1 : decide (0 ≤ i) = true := by simpa using h0
  have e2 : decide (i < (l.length : Int)) = true := by simpa using h2
  simp only [idxS, e1, e2, Bool.and_self, cond_true]
/- an index of a slice of the run's own; l: as it was when the slice was made; l': now -/
theorem idx_own {sz : Nat} {l l' : List α} {i : Int} {x : α} {id : Nat} (hl : l.length = l'.length) (h : getI l' i = some x) : idxS sz (ownV E id l) (intA i) = some (.ptr id (i.toNat * sz), []) := by
  have hne : l ≠ [] := by
    rintro rfl
    have := (getI_lt h).2.1
    simp at hl; omega
  rw [ownV_ne hne]
  have := idx_sl (sz := sz) (id := id) (off := 0) (esz := E.size) (cap := l.length) (ex := false) hl h
  rw [Nat.zero_add] at this
  exact this
theorem idx_blk {sz : Nat} {l l' : List α} {i : Int} {x : α} {id : Nat} (hl : l.length = l'.length) (h : getI l' i = some x) : idxS sz (blkV E id l) (intA i) = some (.ptr id (i.toNat * sz), []) := by
  have := idx_sl (sz := sz) (id := id) (off := 0) (esz := E.size) (cap := l.length) (ex := true) hl h
  rw [Nat.zero_add] at this
  exact this
theorem idxA_ok {len sz id off : Nat} {i : Int} {l : List α} {x : α} (hl : l.length = len) (h : getI l i = some x) : idxA len sz (.ptr id off) (intA i) = some (.ptr id (off + i.toNat * sz), []) := by
  obtain ⟨h0, h1, h2⟩ := getI_lt h
  subst hl
  have e1 : decide (0 ≤ i) = true := by simpa using h0
  have e2 : decide (i < (l.length : Int)) = true := by simpa using h2
  simp only [idxA, e1, e2, Bool.and_self, cond_true]
theorem idxA_ept {len sz off : Nat} {cs : List AV} {i : Int} {l : List α} {x : α} (hl : l.length = len) (h : getI l i = some x) : idxA len sz (.ept cs off) (intA i) = some (.ept cs (off + i.toNat * sz), []) := by
  obtain ⟨h0, h1, h2⟩ := getI_lt h
  subst hl
  have e1 : decide (0 ≤ i) = true := by simpa using h0
  have e2 : decide (i < (l.length : Int)) = true := by simpa using h2
  simp only [idxA, e1, e2, Bool.and_self, cond_true]
theorem idxA_ok0 {len sz id : Nat} {i : Int} {l : List α} {x : α} (hl : l.length = len) (h : getI l i = some x) : idxA len sz (.ptr id 0) (intA i) = some (.ptr id (i.toNat * sz), []) := by
  have := idxA_ok (sz := sz) (id := id) (off := 0) hl h
  rw [Nat.zero_add] at this
  exact this
theorem idxA_ept0 {len sz : Nat} {cs : List AV} {i : Int} {l : List α} {x : α} (hl : l.length = len) (h : getI l i = some x) : idxA len sz (.ept cs 0) (intA i) = some (.ept cs (i.toNat * sz), []) := by
  have := idxA_ept (sz := sz) (cs := cs) (off := 0) hl h
  rw [Nat.zero_add] at this
  exact this
theorem len_own {id : Nat} {l : List α} : lenS (ownV E id l) = some (intA l.length, []) := by cases l <;> rfl
theorem len_blk {id : Nat} {l : List α} : lenS (blkV E id l) = some (intA l.length, []) := rfl
/- cells of the element x at i -/
theorem encs_at {l : List α} {i : Nat} {x : α} (h : l[i]? = some x) (o : Nat) (ho : o < E.size) : (encs E l)[i * E.size + o]? = (E.enc x)[o]? := by
  have hlt : i < l.length := by
    rcases Nat.lt_or_ge i l.length with h' | h'
    · exact h'
    · rw [List.getElem?_eq_none h'] at h; cases h
  have hx : l[i] = x := by rw [List.getElem?_eq_getElem hlt] at h; exact Option.some.inj h
  have h1 : ((encs E l).drop (i * E.size))[o]? = (encs E l)[i * E.size + o]? := by rw [List.getElem?_drop]
  rw [← h1, encs_drop, List.drop_eq_getElem_cons hlt, encs_cons, List.getElem?_append_left (by rw [E.len]; exact ho), hx]
theorem encs_bound {l : List α} {i : Nat} {x : α} (h : l[i]? = some x) : i * E.size + E.size ≤ (encs E l).length := by
  have hlt : i < l.length := by
    rcases Nat.lt_or_ge i l.length with h' | h'
    · exact h'
    · rw [List.getElem?_eq_none h'] at h; cases h
  rw [encs_length]
  have := Nat.mul_le_mul_right E.size (show i + 1 ≤ l.length from hlt)
  rw [Nat.add_mul, Nat.one_mul] at this
  exact this
theorem encs_part {l : List α} {i : Nat} {x : α} (h : l[i]? = some x) : ((encs E l).drop (i * E.size)).take E.size = E.enc x := by
  have hlt : i < l.length := by
    rcases Nat.lt_or_ge i l.length with h' | h'
    · exact h'
    · rw [List.getElem?_eq_none h'] at h; cases h
  have hx : l[i] = x := by rw [List.getElem?_eq_getElem hlt] at h; exact Option.some.inj h
  have := elemAt_encs (E := E) l i hlt
  rw [hx] at this
  exact this
variable {look : Nat → Option ABlk}
theorem ldS_own {id ty off o : Nat} {l : List α} {i : Nat} {x : α} {v : AV} (hb : look id = ownB E ty l) (h : l[i]? = some x) (ho : off = i * E.size + o) (hlt : o < E.size) (hv : (E.enc x)[o]? = some v) : ldS look (.ptr id off) = some (v, []) := by
  have hne : l ≠ [] := by rintro rfl; simp at h
  rw [ownB_ne hne] at hb
  refine ldS_ptr hb ?_
  rw [ho]
  show (encs E l)[i * E.size + o]? = some v
  rw [encs_at h o hlt, hv]
theorem ldA_own {id ty off sz : Nat} {l : List α} {i : Nat} {x : α} (hs : E.size = sz) (hb : look id = ownB E ty l) (h : l[i]? = some x) (ho : off = i * sz) : ldA look sz (.ptr id off) = some (.agg (E.enc x), []) := by
  subst hs
  have hne : l ≠ [] := by rintro rfl; simp at h
  rw [ownB_ne hne] at hb
  have hble : Nat.ble (i * E.size + E.size) (encs E l).length = true := Nat.ble_eq_true_of_le (encs_bound h)
  simp only [ldA, hb, partA, ho, hble, cond_true, encs_part h, Option.map_some]
/- the same at a block that is there in any case -/
theorem ldS_blk {id ty off o : Nat} {l : List α} {i : Nat} {x : α} {v : AV} (hb : look id = some ⟨encs E l, ty⟩) (h : l[i]? = some x) (ho : off = i * E.size + o) (hlt : o < E.size) (hv : (E.enc x)[o]? = some v) : ldS look (.ptr id off) = some (v, []) := by
  refine ldS_ptr hb ?_
  rw [ho]
  show (encs E l)[i * E.size + o]? = some v
  rw [encs_at h o hlt, hv]
theorem ldA_blk {id ty off sz : Nat} {l : List α} {i : Nat} {x : α} (hs : E.size = sz) (hb : look id = some ⟨encs E l, ty⟩) (h : l[i]? = some x) (ho : off = i * sz) : ldA look sz (.ptr id off) = some (.agg (E.enc x), []) := by
  subst hs
  have hble : Nat.ble (i * E.size + E.size) (encs E l).length = true := Nat.ble_eq_true_of_le (encs_bound h)
  simp only [ldA, hb, partA, ho, hble, cond_true, encs_part h, Option.map_some]
theorem ldS_ept_blk {cs : List AV} {off o : Nat} {l : List α} {i : Nat} {x : α} {v : AV} (hb : cs = encs E l) (h : l[i]? = some x) (ho : off = i * E.size + o) (hlt : o < E.size) (hv : (E.enc x)[o]? = some v) : ldS look (.ept cs off) = some (v, []) := by
  subst hb
  simp only [ldS, ho, encs_at h o hlt, hv, Option.map_some]
theorem ldA_ept_blk {cs : List AV} {off sz : Nat} {l : List α} {i : Nat} {x : α} (hs : E.size = sz) (hb : cs = encs E l) (h : l[i]? = some x) (ho : off = i * sz) : ldA look sz (.ept cs off) = some (.agg (E.enc x), []) := by
  subst hs; subst hb
  have hble : Nat.ble (i * E.size + E.size) (encs E l).length = true := Nat.ble_eq_true_of_le (encs_bound h)
  simp only [ldA, partA, ho, hble, cond_true, encs_part h, Option.map_some]
/- stores -/
theorem encs_set {l : List α} {i : Nat} (y : α) (h : i < l.length) : aput (encs E l) (i * E.size) (E.enc y) = encs E (l.set i y) := by
  induction l generalizing i with
  | nil => simp at h
  | cons x l ih =>
    cases i with
    | zero =>
      have h1 : List.drop E.size (E.enc x) = [] := List.drop_eq_nil_of_le (by rw [E.len]; exact Nat.le_refl _)
      have e : List.drop (0 * E.size + (E.enc y).length) (E.enc x ++ encs E l) = encs E l := by
        rw [E.len, Nat.zero_mul, Nat.zero_add, List.drop_append, h1, E.len, Nat.sub_self]; rfl
      rw [encs_cons, aput, e, Nat.zero_mul, List.take_zero, List.nil_append, List.set_cons_zero, encs_cons]
    | succ i =>
      have ih := ih (i := i) (by simpa using h)
      have h1 : List.take ((i + 1) * E.size) (E.enc x) = E.enc x := List.take_of_length_le (by rw [E.len, Nat.add_mul]; omega)
      have h2 : List.drop ((i + 1) * E.size + (E.enc y).length) (E.enc x) = [] := List.drop_eq_nil_of_le (by simp only [E.len, Nat.add_mul]; omega)
      have h3 : (i + 1) * E.size - (E.enc x).length = i * E.size := by rw [E.len, Nat.add_mul]; omega
      have h4 : (i + 1) * E.size + (E.enc y).length - (E.enc x).length = i * E.size + (E.enc y).length := by simp only [E.len, Nat.add_mul]; omega
      rw [encs_cons, aput, List.take_append, List.drop_append, h1, h2, h3, h4, List.nil_append, List.set_cons_succ, encs_cons, ← ih, aput]
      simp only [List.append_assoc]
theorem aput_len {cs new : List AV} {off : Nat} (h : off + new.length ≤ cs.length) : (aput cs off new).length = cs.length := by
  simp only [aput, List.length_append, List.length_take, List.length_drop]; omega
theorem encs_set_cell {l : List α} {i o : Nat} {x y : α} {new : List AV} (h : l[i]? = some x) (ho : o + new.length ≤ E.size) (hy : aput (E.enc x) o new = E.enc y) : aput (encs E l) (i * E.size + o) new = encs E (l.set i y) := by
  have hlt : i < l.length := by
    rcases Nat.lt_or_ge i l.length with h' | h'
    · exact h'
    · rw [List.getElem?_eq_none h'] at h; cases h
  have hb : i * E.size + E.size ≤ (encs E l).length := encs_bound h
  rw [← encs_set y hlt, ← hy]
  have hp := encs_part (E := E) h
  refine List.ext_getElem? fun k => ?_
  have len1 : (aput (E.enc x) o new).length = E.size := by rw [aput_len (by rw [E.len]; exact ho), E.len]
  simp only [aput] at len1 ⊢
  have xe : ∀ j, j < E.size → (E.enc x)[j]? = (encs E l)[i * E.size + j]? := fun j hj => (encs_at h j hj).symm
  have lx := E.len x
  simp only [List.getElem?_append, List.length_append, List.length_take, List.length_drop, List.getElem?_take, List.getElem?_drop, lx]
  have m1 : min (i * E.size + o) (encs E l).length = i * E.size + o := Nat.min_eq_left (by omega)
  have m2 : min (i * E.size) (encs E l).length = i * E.size := Nat.min_eq_left (by omega)
  have m3 : min o E.size = o := Nat.min_eq_left (by omega)
  simp only [m1, m2, m3]
  repeat' split
  all_goals first
    | rfl
    | (exfalso; omega)
    | (congr 1; omega)
    | (rw [xe _ (by omega)]; congr 1; omega)
    | (rw [xe _ (by omega)]; congr 2; omega)
end
end Go.Proofs.Ytfhcciepaangiaa
