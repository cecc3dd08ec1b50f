/- Typed lists as plain values; how operations run on values that are known in part. -/
import Derived.Test.YtfhcciepaangiaaPi21
import Derived.IntWalk
set_option linter.unusedVariables false
set_option linter.unusedSimpArgs false
namespace Go.Proofs.Ytfhcciepaangiaa
open Go.RowKit

/- a type's elements as cells -/
structure En (α : Type) where
  size : Nat
  enc : α → List AV
  len : ∀ x, (enc x).length = size
  pos : 0 < size
  cell : ∀ x, (enc x).all isCell = true
  cln : ∀ x, cleans (enc x) = true
  nrm : ∀ x, norms (enc x) = enc x
def encs {α : Type} (E : En α) (l : List α) : List AV := l.flatMap E.enc
abbrev lstA {α : Type} (E : En α) (l : List α) : AV := .lst l.length (encs E l) false
abbrev intA (z : Int) : AV := .sc (.int .i64 z)
abbrev boolA (b : Bool) : AV := .sc (.bool b)
abbrev strA (s : ByteArray) : AV := .sc (.string s)
section
variable {α : Type} {E : En α}
theorem encs_nil : encs E [] = [] := rfl
theorem encs_cons (x : α) (l : List α) : encs E (x :: l) = E.enc x ++ encs E l := rfl
theorem encs_append (l k : List α) : encs E (l ++ k) = encs E l ++ encs E k := by simp [encs]
theorem encs_one (x : α) : encs E [x] = E.enc x := by simp [encs]
theorem encs_snoc (l : List α) (x : α) : encs E l ++ E.enc x = encs E (l ++ [x]) := by simp [encs]
theorem encs_length (l : List α) : (encs E l).length = l.length * E.size := by
  induction l with
  | nil => simp [encs]
  | cons x l ih => rw [encs_cons, List.length_append, ih, E.len, List.length_cons, Nat.add_mul, Nat.one_mul, Nat.add_comm]
theorem encs_drop (l : List α) (i : Nat) : (encs E l).drop (i * E.size) = encs E (l.drop i) := by
  induction l generalizing i with
  | nil => simp [encs]
  | cons x l ih =>
    cases i with
    | zero => simp
    | succ i =>
      rw [encs_cons, List.drop_append, List.drop_succ_cons, E.len]
      have h1 : (E.enc x).drop ((i + 1) * E.size) = [] := List.drop_eq_nil_of_le (by rw [E.len, Nat.add_mul]; omega)
      have h2 : (i + 1) * E.size - E.size = i * E.size := by rw [Nat.add_mul]; omega
      rw [h1, h2, List.nil_append, ih]
theorem encs_take (l : List α) (i : Nat) : (encs E l).take (i * E.size) = encs E (l.take i) := by
  induction l generalizing i with
  | nil => simp [encs]
  | cons x l ih =>
    cases i with
    | zero => simp [encs]
    | succ i =>
      rw [encs_cons, List.take_append, List.take_succ_cons, E.len, encs_cons]
      have h1 : (E.enc x).take ((i + 1) * E.size) = E.enc x := List.take_of_length_le (by rw [E.len, Nat.add_mul]; omega)
      have h2 : (i + 1) * E.size - E.size = i * E.size := by rw [Nat.add_mul]; omega
      rw [h1, h2, ih]
theorem elemAt_encs (l : List α) (i : Nat) (h : i < l.length) : elemAt E.size (encs E l) i = E.enc l[i] := by
  unfold elemAt
  rw [encs_drop, List.drop_eq_getElem_cons h, encs_cons, List.take_append_of_le_length (by rw [E.len]; exact Nat.le_refl _), List.take_of_length_le (by rw [E.len]; exact Nat.le_refl _)]
theorem cleans_append : ∀ (a b : List AV), cleans (a ++ b) = (cleans a && cleans b)
  | [], b => by simp [cleans]
  | x :: a, b => by simp [cleans, cleans_append a b, Bool.and_assoc]
theorem norms_append : ∀ (a b : List AV), norms (a ++ b) = norms a ++ norms b
  | [], b => by simp [norms]
  | x :: a, b => by simp [norms, norms_append a b]
theorem encs_clean (l : List α) : cleans (encs E l) = true := by
  induction l with
  | nil => rfl
  | cons x l ih => rw [encs_cons, cleans_append, E.cln, ih]; rfl
theorem encs_norm (l : List α) : norms (encs E l) = encs E l := by
  induction l with
  | nil => rfl
  | cons x l ih => rw [encs_cons, norms_append, E.nrm, ih]
theorem encs_cell (l : List α) : (encs E l).all isCell = true := by
  induction l with
  | nil => rfl
  | cons x l ih => rw [encs_cons, List.all_append, E.cell, ih]; rfl
theorem mapO_clean (look : Nat → Option ABlk) (k : Nat) : ∀ (cs : List AV), cs.all isCell = true → cleans cs = true → mapO (freeze look (k + 1)) cs = some cs
  | [], _, _ => rfl
  | x :: cs, h1, h2 => by
    simp only [List.all_cons, Bool.and_eq_true] at h1
    simp only [cleans, Bool.and_eq_true] at h2
    have hx : freeze look (k + 1) x = some x := by
      cases x <;> simp [isCell] at h1 <;> simp [clean] at h2 <;> simp [freeze, clean, h2]
    unfold mapO
    rw [hx, mapO_clean look k cs h1.2 h2.2]
theorem snap_clean (look : Nat → Option ABlk) (k : Nat) : ∀ (cs : List AV), cs.all isCell = true → (∀ x ∈ cs, ∀ f l, x ≠ .fn f l) → cleans cs = true → mapO (snap look (k + 1)) cs = some cs
  | [], _, _, _ => rfl
  | x :: cs, h1, h3, h2 => by
    simp only [List.all_cons, Bool.and_eq_true] at h1
    simp only [cleans, Bool.and_eq_true] at h2
    have hx : snap look (k + 1) x = some x := by
      cases x with
      | fn f l => exact absurd rfl (h3 _ (by simp) f l)
      | _ => simp [isCell] at h1 <;> simp [clean] at h2 <;> simp [snap, clean, h2]
    unfold mapO
    rw [hx, snap_clean look k cs h1.2 (fun y hy => h3 y (by simp [hy])) h2.2]

/- the run -/
@[simp] theorem opP_some (v : AV) (k : AV → Prop) : opP (some (v, [])) k = k v := rfl
@[simp] theorem opM_some (v : AV) (d : Wr) (k : AV → Wr → Prop) : opM (some (v, d)) k = k v d := rfl
@[simp] theorem opN_some (v : AV) (d : Wr) (m : Mem) (k : AV → Mem → Prop) : opN (some (v, d)) m k = k v (mpushs m d) := rfl
@[simp] theorem spl_bool (b : Bool) (x y : Prop) : spl (.sc (.bool b)) x y = (bif b then x else y) := rfl
theorem cond_of {b : Bool} {x y : Prop} (h1 : b = true → x) (h2 : b = false → y) : bif b then x else y := by cases b <;> simp_all
theorem spl_of {b : Bool} {x y : Prop} (h1 : b = true → x) (h2 : b = false → y) : spl (.sc (.bool b)) x y := by cases b <;> simp_all
variable {P : Program} {look : Nat → Option ABlk} {t yt ty n : Nat}
theorem opA_bin {op : BinOp} {a b v : Value} (h : fastBin op a b = some v) : opA P (.binOp op t (.tmp 0) (.tmp 1) yt) ty [.sc a, .sc b] look n = some (.sc v, []) := by simp [opA, aop, aBin, rhoV, h]
@[simp] theorem opA_add {k : IntKind} (a b : Int) : opA P (.binOp .add t (.tmp 0) (.tmp 1) yt) ty [.sc (.int k a), .sc (.int k b)] look n = some (.sc (.int k (k.wrap (a + b))), []) := opA_bin (by simp [fastBin])
@[simp] theorem opA_sub {k : IntKind} (a b : Int) : opA P (.binOp .sub t (.tmp 0) (.tmp 1) yt) ty [.sc (.int k a), .sc (.int k b)] look n = some (.sc (.int k (k.wrap (a - b))), []) := opA_bin (by simp [fastBin])
@[simp] theorem opA_mul {k : IntKind} (a b : Int) : opA P (.binOp .mul t (.tmp 0) (.tmp 1) yt) ty [.sc (.int k a), .sc (.int k b)] look n = some (.sc (.int k (k.wrap (a * b))), []) := opA_bin (by simp [fastBin])
@[simp] theorem opA_lss {k : IntKind} (a b : Int) : opA P (.binOp .lss t (.tmp 0) (.tmp 1) yt) ty [.sc (.int k a), .sc (.int k b)] look n = some (.sc (.bool (decide (a < b))), []) := opA_bin (by simp [fastBin])
@[simp] theorem opA_leq {k : IntKind} (a b : Int) : opA P (.binOp .leq t (.tmp 0) (.tmp 1) yt) ty [.sc (.int k a), .sc (.int k b)] look n = some (.sc (.bool (decide (a ≤ b))), []) := opA_bin (by simp [fastBin])
@[simp] theorem opA_gtr {k : IntKind} (a b : Int) : opA P (.binOp .gtr t (.tmp 0) (.tmp 1) yt) ty [.sc (.int k a), .sc (.int k b)] look n = some (.sc (.bool (decide (b < a))), []) := opA_bin (by simp [fastBin])
@[simp] theorem opA_geq {k : IntKind} (a b : Int) : opA P (.binOp .geq t (.tmp 0) (.tmp 1) yt) ty [.sc (.int k a), .sc (.int k b)] look n = some (.sc (.bool (decide (b ≤ a))), []) := opA_bin (by simp [fastBin])
@[simp] theorem opA_eql {k : IntKind} (a b : Int) : opA P (.binOp .eql t (.tmp 0) (.tmp 1) yt) ty [.sc (.int k a), .sc (.int k b)] look n = some (.sc (.bool (decide (a = b))), []) := opA_bin (by simp [fastBin]; by_cases h : a = b <;> simp [h])
@[simp] theorem opA_neq {k : IntKind} (a b : Int) : opA P (.binOp .neq t (.tmp 0) (.tmp 1) yt) ty [.sc (.int k a), .sc (.int k b)] look n = some (.sc (.bool (decide (¬ a = b))), []) := opA_bin (by simp [fastBin]; by_cases h : a = b <;> simp [h])
@[simp] theorem opA_eqlS (a b : ByteArray) : opA P (.binOp .eql t (.tmp 0) (.tmp 1) yt) ty [.sc (.string a), .sc (.string b)] look n = some (.sc (.bool (a.toList == b.toList)), []) := opA_bin (by simp [fastBin])
@[simp] theorem opA_neqS (a b : ByteArray) : opA P (.binOp .neq t (.tmp 0) (.tmp 1) yt) ty [.sc (.string a), .sc (.string b)] look n = some (.sc (.bool (!(a.toList == b.toList))), []) := opA_bin (by simp [fastBin])
@[simp] theorem opA_lssS (a b : ByteArray) : opA P (.binOp .lss t (.tmp 0) (.tmp 1) yt) ty [.sc (.string a), .sc (.string b)] look n = some (.sc (.bool (Op.bytesLess a.toList b.toList)), []) := opA_bin (by simp [fastBin])
@[simp] theorem opA_leqS (a b : ByteArray) : opA P (.binOp .leq t (.tmp 0) (.tmp 1) yt) ty [.sc (.string a), .sc (.string b)] look n = some (.sc (.bool (Op.bytesLess a.toList b.toList || a.toList == b.toList)), []) := opA_bin (by simp [fastBin])
@[simp] theorem opA_not (b : Bool) : opA P (.unOp .not t (.tmp 0)) ty [.sc (.bool b)] look n = some (.sc (.bool (!b)), []) := by rfl
@[simp] theorem opA_pick (b : Bool) (x y : AV) : opA P (.pick (.tmp 0) (.tmp 1) (.tmp 2)) ty [.sc (.bool b), x, y] look n = some ((bif b then x else y), []) := by cases b <;> rfl
@[simp] theorem opA_func (f : FuncId) (x : AV) : opA P (.makeFunc (.func f) #[] #[.tmp 0]) ty [x] look n = some (.fn f [x], []) := by rfl
@[simp] theorem opA_func0 (f : FuncId) : opA P (.makeFunc (.func f) #[] #[]) ty [] look n = some (.fn f [], []) := by rfl
@[simp] theorem opA_nilCheck (id off : Nat) : opA P (.nilCheck (.tmp 0)) ty [.ptr id off] look n = some (.ptr id off, []) := by rfl
theorem idxS_lst {sz : Nat} (hs : E.size = sz) (l : List α) (ex : Bool) (i : Nat) (h : i < l.length) : idxS sz (.lst l.length (encs E l) ex) (.sc (.int .i64 (i : Int))) = some (.ept (E.enc l[i]) 0, []) := by
  subst hs
  have h1 : decide ((0 : Int) ≤ (i : Int)) = true := by simp
  have h2 : decide ((i : Int) < (l.length : Int)) = true := by simpa using h
  simp only [idxS, h1, h2, Bool.and_self, cond_true, Int.toNat_natCast, elemAt_encs l i h]
theorem ldA_el {sz : Nat} (hs : E.size = sz) (x : α) : ldA look sz (.ept (E.enc x) 0) = some (.agg (E.enc x), []) := by
  subst hs
  have : Nat.ble (0 + E.size) (E.enc x).length = true := by rw [E.len]; simp
  simp only [ldA, partA, this, cond_true, List.drop_zero, Option.map_some]
  rw [List.take_of_length_le (by rw [E.len]; exact Nat.le_refl _)]
theorem lst_clean (l : List α) {ex : Bool} {k : Nat} : clean (.lst k (encs E l) ex) = true := by simp [clean, encs_clean]
@[simp] theorem lenS_lst (k : Nat) (cs : List AV) (ex : Bool) : lenS (.lst k cs ex) = some (.sc (.int .i64 (k : Int)), []) := rfl
@[simp] theorem lenS_sl (id off esz k cap : Nat) (ex : Bool) : lenS (.sl id off esz k cap ex) = some (.sc (.int .i64 (k : Int)), []) := rfl
@[simp] theorem lenS_nils : lenS .nils = some (.sc (.int .i64 0), []) := rfl
@[simp] theorem fldO_ptr (o id off : Nat) : fldO o (.ptr id off) = some (.ptr id (off + o), []) := rfl
@[simp] theorem fldO_ept (o off : Nat) (cs : List AV) : fldO o (.ept cs off) = some (.ept cs (off + o), []) := rfl
theorem ldS_ept {cs : List AV} {off : Nat} {x : AV} (h : cs[off]? = some x) : ldS look (.ept cs off) = some (x, []) := by simp [ldS, h]
theorem ldS_ptr {id off : Nat} {b : ABlk} {x : AV} (hb : look id = some b) (h : b.cells[off]? = some x) : ldS look (.ptr id off) = some (x, []) := by simp [ldS, hb, h]
@[simp] theorem ext_tup (i : Nat) (vs : List AV) : ext i (.tup vs) = (vs[i]?).map (·, []) := rfl
theorem wrap64 {z : Int} (h1 : -9223372036854775808 ≤ z) (h2 : z ≤ 9223372036854775807) : IntKind.wrap .i64 z = z := IntWalk.i64_in z ⟨h1, h2⟩
/- parts of slices -/
theorem opA_slc_lo {e sz : Nat} (hu : P.underlying t = some (.slice e)) (hs : tsize P e = some sz) {k : Nat} {cs : List AV} {ex : Bool} {a : AV} : opA P (.slice t (.tmp 0) (some (.tmp 1)) none none) ty [.lst k cs ex, a] look n = slcS sz (.lst k cs ex) (some a) none none := by simp [opA, aop, rhoV, aSlice, hu, hs, slcS]; rfl
theorem opA_slc_hi {e sz : Nat} (hu : P.underlying t = some (.slice e)) (hs : tsize P e = some sz) {k : Nat} {cs : List AV} {ex : Bool} {a : AV} : opA P (.slice t (.tmp 0) none (some (.tmp 1)) none) ty [.lst k cs ex, a] look n = slcS sz (.lst k cs ex) none (some a) none := by simp [opA, aop, rhoV, aSlice, hu, hs, slcS]; rfl
theorem slcS_lo {sz : Nat} (hs : E.size = sz) (l : List α) (ex : Bool) (i : Nat) (h : i ≤ l.length) : slcS sz (.lst l.length (encs E l) ex) (some (.sc (.int .i64 (i : Int)))) none none = some (lstA E (l.drop i), []) := by
  subst hs
  have h1 : decide ((0 : Int) ≤ (i : Int)) = true := by simp
  have h2 : Nat.ble i l.length = true := Nat.ble_eq_true_of_le h
  have h3 : Nat.ble l.length l.length = true := Nat.ble_eq_true_of_le (Nat.le_refl _)
  have h4 : Nat.beq (encs E l).length (l.length * E.size) = true := by rw [encs_length]; exact Nat.beq_refl _
  simp only [slcS, bnd, h1, cond_true, Int.toNat_natCast, h2, h3, h4, Bool.and_self, Option.isSome_none, Bool.false_and, Bool.not_false, encs_drop, lstA, List.length_drop]
  rw [List.take_of_length_le (by rw [encs_length, List.length_drop]; exact Nat.le_refl _)]
theorem slcS_hi {sz : Nat} (hs : E.size = sz) (l : List α) (ex : Bool) (i : Nat) (h : i ≤ l.length) : slcS sz (.lst l.length (encs E l) ex) none (some (.sc (.int .i64 (i : Int)))) none = some (lstA E (l.take i), []) := by
  subst hs
  have h1 : decide ((0 : Int) ≤ (i : Int)) = true := by simp
  have h2 : Nat.ble i l.length = true := Nat.ble_eq_true_of_le h
  have h3 : Nat.ble l.length l.length = true := Nat.ble_eq_true_of_le (Nat.le_refl _)
  have h4 : Nat.beq (encs E l).length (l.length * E.size) = true := by rw [encs_length]; exact Nat.beq_refl _
  have h5 : Nat.ble 0 i = true := Nat.ble_eq_true_of_le (Nat.zero_le _)
  simp only [slcS, bnd, h1, cond_true, Int.toNat_natCast, h2, h3, h4, h5, Bool.and_self, Option.isSome_none, Bool.false_and, Bool.not_false, Nat.zero_mul, List.drop_zero, Nat.sub_zero, encs_take, lstA, List.length_take, Nat.min_eq_left h]
/- a slice of the run's own, from a list -/
theorem nilK_lst {l : List α} {ex : Bool} {k : Bool → Prop} (h : ∀ b, (b = true → l = []) → k b) : nilK (.lst l.length (encs E l) ex) k := by
  cases l with
  | nil => exact fun b => h b fun _ => rfl
  | cons x l =>
    have hx : encs E (x :: l) ≠ [] := by
      intro e
      have := congrArg List.length e
      rw [encs_length] at this
      have hp := E.pos
      simp only [List.length_cons, List.length_nil] at this
      have : (l.length + 1) * E.size ≥ 1 * 1 := Nat.mul_le_mul (by omega) hp
      omega
    unfold nilK
    split
    · rename_i h'; cases h'
    · rename_i h'
      cases h'
      split
      · rename_i h'; exact absurd h' hx
      · exact h false (fun h => by cases h)
    · rename_i h'; cases h'
    · rename_i h1 h2 h3; exact absurd rfl (h2 _ _ _)
theorem app_lst {e sz by_ : Nat} {zs : List AV} {m : Nat} {x : AV} (hs : E.size = sz) (l : List α) {ex : Bool} (h0 : l ≠ []) (hb : l.length * by_ ≤ 140737488355328) (hb2 : l.length ≤ 4611686018427387904) (hz : zs.length = sz) (id off cap : Nat) (b : ABlk) (hl : look id = some b) (hoff : off + 0 ≤ b.cells.length) :
    app look e sz by_ zs m (.sl id off sz 0 0 true) (.lst l.length (encs E l) ex) = some (.sl m 0 sz l.length l.length false, [(m, some ⟨encs E l, e⟩)]) := by
  subst hs
  have hp := E.pos
  have hlen : 0 < l.length := List.length_pos_iff.2 h0
  have c1 : cellsOf look E.size (.lst l.length (encs E l) ex) = some (l.length, encs E l) := by
    simp only [cellsOf, encs_length, Nat.beq_refl, cond_true]
  have c2 : cellsOf look E.size (.sl id off E.size 0 0 true) = some (0, []) := by
    have : Nat.ble (off + 0) b.cells.length = true := Nat.ble_eq_true_of_le hoff
    simp only [cellsOf, hl, Nat.zero_mul, this, Nat.beq_refl, Bool.and_self, cond_true, Nat.zero_mul, List.take_zero]
  have t1 : Nat.beq l.length 0 = false := by
    cases h : Nat.beq l.length 0 with
    | false => rfl
    | true => have := Nat.eq_of_beq_eq_true h; omega
  have t2 : Nat.ble (l.length * by_) 140737488355328 = true := Nat.ble_eq_true_of_le hb
  have t3 : Nat.ble l.length 4611686018427387904 = true := Nat.ble_eq_true_of_le (by omega)
  have t4 : Nat.beq zs.length E.size = true := by rw [hz]; exact Nat.beq_refl _
  have t5 : Nat.ble 1 E.size = true := Nat.ble_eq_true_of_le hp
  have t6 : Nat.beq (encs E l).length (l.length * E.size) = true := by rw [encs_length]; exact Nat.beq_refl _
  have t7 : Nat.beq ([] : List AV).length (0 * E.size) = true := by simp
  have t8 : Nat.ble l.length 0 = false := by
    cases h : Nat.ble l.length 0 with
    | false => rfl
    | true => have := Nat.le_of_ble_eq_true h; omega
  simp only [app, c1, c2, t1, cond_false, Nat.zero_add, t2, t3, t4, t5, t6, t7, t8, encs_cell, Bool.and_self, cond_true, Nat.zero_add, List.nil_append]
/- ends of a run that hand back a number, or a boolean -/
theorem retI {z Z : Int} {m : Mem} (h : z = Z) : retL (Ans (intA Z)) m [some (.sc (.int .i64 z))] := by subst h; rfl
theorem retB {z Z : Bool} {m : Mem} (h : z = Z) : retL (Ans (boolA Z)) m [some (.sc (.bool z))] := by subst h; rfl
end
end Go.Proofs.Ytfhcciepaangiaa
