/- Names for the text that the printer of conditions writes. -/
import Derived.Test.YtfhcciepaangiaaPi19
set_option linter.unusedVariables false
set_option linter.unusedSimpArgs false
namespace Go.Proofs.Ytfhcciepaangiaa
open Go.RowKit

def nloops : Code → Nat
  | .seq a b => nloops a + nloops b
  | .cond _ a b => nloops a + nloops b
  | .block _ b => nloops b
  | .loop _ => 1
  | _ => 0
def loopB : Code → Nat → Code
  | .seq a b, i => bif Nat.blt i (nloops a) then loopB a i else loopB b (i - nloops a)
  | .cond _ a b, i => bif Nat.blt i (nloops a) then loopB a i else loopB b (i - nloops a)
  | .block _ b, i => loopB b i
  | .loop b, _ => b
  | _, _ => .skip
def contW (P : Program) (K : Cfg) (nt n0 : Nat) : Code → Nat → (AExit → St → Prop) → AExit → St → Prop
  | .seq a b, i, Q => bif Nat.blt i (nloops a) then contW P K nt n0 a i (thenQ (fun s' => W P K nt n0 b s' Q) Q) else contW P K nt n0 b (i - nloops a) Q
  | .cond _ a b, i, Q => bif Nat.blt i (nloops a) then contW P K nt n0 a i Q else contW P K nt n0 b (i - nloops a) Q
  | .block id b, i, Q => contW P K nt n0 b i (blockQ id Q)
  | .loop _, _, Q => Q
  | _, _, _ => fun _ _ => False
/- an operation of operands that are given -/
def rhoV (vals : List AV) : Operand → Option AV
  | .tmp i => vals[i]?
  | _ => none
def opA (P : Program) (op : Op) (ty : TypeId) (vals : List AV) (look : Nat → Option ABlk) (n : Nat) : Res := aop P (rhoV vals) look n ⟨none, op, ty, "", #[], none⟩
def opN (r : Res) (m : Mem) (k : AV → Mem → Prop) : Prop := opM r fun v d => k v (mpushs m d)
/- operations whose types are resolved -/
section
variable (look : Nat → Option ABlk)
def ldS : AV → Res
  | .ptr id off => match look id with | some b => (b.cells[off]?).map (·, []) | none => none
  | .ept cs off => (cs[off]?).map (·, [])
  | _ => none
def partA (n : Nat) (cs : List AV) (off : Nat) : Option AV := bif Nat.ble (off + n) cs.length then some (.agg ((cs.drop off).take n)) else none
def ldA (n : Nat) : AV → Res
  | .ptr id off => match look id with | some b => (partA n b.cells off).map (·, []) | none => none
  | .ept cs off => (partA n cs off).map (·, [])
  | _ => none
def stO (sz : Nat) (a x : AV) : Res :=
  match a, acells x, some sz with
  | .ptr id off, some cs, some sz =>
    match look id with
    | some b => bif Nat.beq cs.length sz && Nat.ble (off + cs.length) b.cells.length && cs.all isCell then some (.und, [(id, some ⟨aput b.cells off cs, b.ty⟩)]) else none
    | none => none
  | _, _, _ => none
def fldO (o : Nat) : AV → Res
  | .ptr id off => some (.ptr id (off + o), [])
  | .ept cs off => some (.ept cs (off + o), [])
  | _ => none
def idxS (sz : Nat) (x i : AV) : Res :=
  match i with
  | .sc (.int _ z) => match x with
    | .sl id off esz n cap ex => bif decide (0 ≤ z) && decide (z < (n : Int)) then some (.ptr id (off + z.toNat * sz), []) else none
    | .lst n cs ex => bif decide (0 ≤ z) && decide (z < (n : Int)) then some (.ept (elemAt sz cs z.toNat) 0, []) else none
    | _ => none
  | _ => none
def idxA (len sz : Nat) (x i : AV) : Res :=
  match i with
  | .sc (.int _ z) => match x with
    | .ptr id off => bif decide (0 ≤ z) && decide (z < (len : Int)) then some (.ptr id (off + z.toNat * sz), []) else none
    | .ept cs off => bif decide (0 ≤ z) && decide (z < (len : Int)) then some (.ept cs (off + z.toNat * sz), []) else none
    | _ => none
  | _ => none
def fvS (o : Nat) : AV → Res
  | .agg cs => (cs[o]?).map (·, [])
  | _ => none
def fvA (o n : Nat) : AV → Res
  | .agg cs => (partA n cs o).map (·, [])
  | _ => none
def alc (zs : List AV) (t n : Nat) : Res := some (.ptr n 0, [(n, some ⟨zs, t⟩)])
def bx (t : Nat) (x : AV) (n : Nat) : Res := match acells x with
  | some cs => some (.ptr n 0, [(n, some ⟨cs, t⟩)])
  | none => none
def bld (zs : List AV) (pl : List (Nat × Nat)) (parts : List (Nat × AV)) : Res := (afill (fun i => pl[i]?) zs parts).map (fun cs => (.agg cs, []))
def app (e sz by_ : Nat) (zs : List AV) (n : Nat) (s x : AV) : Res :=
  match cellsOf look sz x with
  | some (m, xs) =>
    bif Nat.beq m 0 then
      match s with
      | .nils | .lst .. | .sl .. => some (s, [])
      | _ => none
    else
    match cellsOf look sz s with
    | some (k, old) =>
      bif Nat.ble ((k + m) * by_) 140737488355328 && Nat.ble (k + m) 4611686018427387904 && Nat.beq zs.length sz && Nat.ble 1 sz && xs.all isCell && Nat.beq xs.length (m * sz) && Nat.beq old.length (k * sz) then
        match s with
        | .nils => some (.sl n 0 sz (k + m) (k + m) false, [(n, some ⟨old ++ xs, e⟩)])
        | .lst _ _ true => some (.sl n 0 sz (k + m) (k + m) false, [(n, some ⟨old ++ xs, e⟩)])
        | .sl id off esz _ cap ex =>
          bif Nat.ble (k + m) cap then
            match look id with
            | some b => bif Nat.ble (off + (k + m) * sz) b.cells.length then some (.sl id off sz (k + m) cap ex, [(id, some ⟨aput b.cells (off + k * sz) xs, b.ty⟩)]) else none
            | none => none
          else bif ex then some (.sl n 0 sz (k + m) (k + m) false, [(n, some ⟨old ++ xs, e⟩)])
          else bif Nat.beq off 0 && (match look id with | some b => Nat.beq b.ty e | none => false) then some (.sl n 0 sz (k + m) (k + m) false, [(n, some ⟨old ++ xs, e⟩), (id, none)])
          else none
        | _ => none
      else none
    | none => none
  | none => none
def lenS : AV → Res
  | .nils => some (.sc (.int .i64 0), [])
  | .lst n _ _ => some (.sc (.int .i64 n), [])
  | .sl _ _ _ n _ _ => some (.sc (.int .i64 n), [])
  | _ => none
def bsl (n e sz len : Nat) (zs : List AV) (parts : List (Nat × AV)) : Res :=
  bif Nat.ble (len * sz) 16777216 && Nat.beq zs.length sz && Nat.ble 1 sz then
    match afill (fun i => some (i * sz, sz)) (rep zs len) parts with
    | some cs => some (.sl n 0 sz len len true, [(n, some ⟨cs, e⟩)])
    | none => none
  else none
def mks (n e sz by_ : Nat) (zs : List AV) (l c : AV) : Res :=
  match l, c with
  | .sc (.int .i64 x), .sc (.int .i64 y) =>
    bif decide (0 ≤ x) && decide (x ≤ y) && decide (y * (by_ : Int) ≤ 140737488355328) && decide (y ≤ 4611686018427387904) && Nat.beq zs.length sz && Nat.ble 1 sz then
      some (.sl n 0 sz x.toNat y.toNat true, [(n, some ⟨rep zs y.toNat, e⟩)])
    else none
  | _, _ => none
def slcS (sz : Nat) (x : AV) (lo hi mx : Option AV) : Res :=
  match x with
  | .nils => match bnd 0 lo, bnd 0 hi, bnd 0 mx with
    | some 0, some 0, some 0 => bif mx.isSome && hi.isNone then none else some (.nils, [])
    | _, _, _ => none
  | .lst n cs ex => match bnd 0 lo, bnd n hi, bnd n mx with
    | some l, some h, some m => bif Nat.ble l h && Nat.ble h m && Nat.ble m n && Nat.beq cs.length (n * sz) && !(mx.isSome && hi.isNone) then
        some (.lst (h - l) ((cs.drop (l * sz)).take ((h - l) * sz)) (mx.isSome && Nat.beq h m), []) else none
    | _, _, _ => none
  | .sl id off esz n cap ex => match bnd 0 lo, bnd n hi, bnd cap mx with
    | some l, some h, some m => bif Nat.ble l h && Nat.ble h m && Nat.ble m cap && Nat.beq esz sz && !(mx.isSome && hi.isNone) then
        bif Nat.beq l m then some (.lst 0 [] (ex || mx.isSome), []) else some (.sl id (off + l * sz) sz (h - l) (m - l) (ex || mx.isSome), [])
      else none
    | _, _, _ => none
  | _ => none
def ext (i : Nat) : AV → Res
  | .tup vs => (vs[i]?).map (·, [])
  | _ => none
end
def exA1 (v : AV) (k : AV → Prop) : Prop := exAgg 1 v fun l => match l with
  | [a0] => k a0
  | _ => False
@[simp] theorem exA1_agg (a0 : AV) (k : AV → Prop) : exA1 (.agg [a0]) k = k a0 := rfl
def exA2 (v : AV) (k : AV → AV → Prop) : Prop := exAgg 2 v fun l => match l with
  | [a0, a1] => k a0 a1
  | _ => False
@[simp] theorem exA2_agg (a0 a1 : AV) (k : AV → AV → Prop) : exA2 (.agg [a0, a1]) k = k a0 a1 := rfl
def exA3 (v : AV) (k : AV → AV → AV → Prop) : Prop := exAgg 3 v fun l => match l with
  | [a0, a1, a2] => k a0 a1 a2
  | _ => False
@[simp] theorem exA3_agg (a0 a1 a2 : AV) (k : AV → AV → AV → Prop) : exA3 (.agg [a0, a1, a2]) k = k a0 a1 a2 := rfl
def exA4 (v : AV) (k : AV → AV → AV → AV → Prop) : Prop := exAgg 4 v fun l => match l with
  | [a0, a1, a2, a3] => k a0 a1 a2 a3
  | _ => False
@[simp] theorem exA4_agg (a0 a1 a2 a3 : AV) (k : AV → AV → AV → AV → Prop) : exA4 (.agg [a0, a1, a2, a3]) k = k a0 a1 a2 a3 := rfl
def exA5 (v : AV) (k : AV → AV → AV → AV → AV → Prop) : Prop := exAgg 5 v fun l => match l with
  | [a0, a1, a2, a3, a4] => k a0 a1 a2 a3 a4
  | _ => False
@[simp] theorem exA5_agg (a0 a1 a2 a3 a4 : AV) (k : AV → AV → AV → AV → AV → Prop) : exA5 (.agg [a0, a1, a2, a3, a4]) k = k a0 a1 a2 a3 a4 := rfl
def exA6 (v : AV) (k : AV → AV → AV → AV → AV → AV → Prop) : Prop := exAgg 6 v fun l => match l with
  | [a0, a1, a2, a3, a4, a5] => k a0 a1 a2 a3 a4 a5
  | _ => False
@[simp] theorem exA6_agg (a0 a1 a2 a3 a4 a5 : AV) (k : AV → AV → AV → AV → AV → AV → Prop) : exA6 (.agg [a0, a1, a2, a3, a4, a5]) k = k a0 a1 a2 a3 a4 a5 := rfl
def exA7 (v : AV) (k : AV → AV → AV → AV → AV → AV → AV → Prop) : Prop := exAgg 7 v fun l => match l with
  | [a0, a1, a2, a3, a4, a5, a6] => k a0 a1 a2 a3 a4 a5 a6
  | _ => False
@[simp] theorem exA7_agg (a0 a1 a2 a3 a4 a5 a6 : AV) (k : AV → AV → AV → AV → AV → AV → AV → Prop) : exA7 (.agg [a0, a1, a2, a3, a4, a5, a6]) k = k a0 a1 a2 a3 a4 a5 a6 := rfl
def exA8 (v : AV) (k : AV → AV → AV → AV → AV → AV → AV → AV → Prop) : Prop := exAgg 8 v fun l => match l with
  | [a0, a1, a2, a3, a4, a5, a6, a7] => k a0 a1 a2 a3 a4 a5 a6 a7
  | _ => False
@[simp] theorem exA8_agg (a0 a1 a2 a3 a4 a5 a6 a7 : AV) (k : AV → AV → AV → AV → AV → AV → AV → AV → Prop) : exA8 (.agg [a0, a1, a2, a3, a4, a5, a6, a7]) k = k a0 a1 a2 a3 a4 a5 a6 a7 := rfl
def exA9 (v : AV) (k : AV → AV → AV → AV → AV → AV → AV → AV → AV → Prop) : Prop := exAgg 9 v fun l => match l with
  | [a0, a1, a2, a3, a4, a5, a6, a7, a8] => k a0 a1 a2 a3 a4 a5 a6 a7 a8
  | _ => False
@[simp] theorem exA9_agg (a0 a1 a2 a3 a4 a5 a6 a7 a8 : AV) (k : AV → AV → AV → AV → AV → AV → AV → AV → AV → Prop) : exA9 (.agg [a0, a1, a2, a3, a4, a5, a6, a7, a8]) k = k a0 a1 a2 a3 a4 a5 a6 a7 a8 := rfl
def exA10 (v : AV) (k : AV → AV → AV → AV → AV → AV → AV → AV → AV → AV → Prop) : Prop := exAgg 10 v fun l => match l with
  | [a0, a1, a2, a3, a4, a5, a6, a7, a8, a9] => k a0 a1 a2 a3 a4 a5 a6 a7 a8 a9
  | _ => False
@[simp] theorem exA10_agg (a0 a1 a2 a3 a4 a5 a6 a7 a8 a9 : AV) (k : AV → AV → AV → AV → AV → AV → AV → AV → AV → AV → Prop) : exA10 (.agg [a0, a1, a2, a3, a4, a5, a6, a7, a8, a9]) k = k a0 a1 a2 a3 a4 a5 a6 a7 a8 a9 := rfl
def exA11 (v : AV) (k : AV → AV → AV → AV → AV → AV → AV → AV → AV → AV → AV → Prop) : Prop := exAgg 11 v fun l => match l with
  | [a0, a1, a2, a3, a4, a5, a6, a7, a8, a9, a10] => k a0 a1 a2 a3 a4 a5 a6 a7 a8 a9 a10
  | _ => False
@[simp] theorem exA11_agg (a0 a1 a2 a3 a4 a5 a6 a7 a8 a9 a10 : AV) (k : AV → AV → AV → AV → AV → AV → AV → AV → AV → AV → AV → Prop) : exA11 (.agg [a0, a1, a2, a3, a4, a5, a6, a7, a8, a9, a10]) k = k a0 a1 a2 a3 a4 a5 a6 a7 a8 a9 a10 := rfl
def exA12 (v : AV) (k : AV → AV → AV → AV → AV → AV → AV → AV → AV → AV → AV → AV → Prop) : Prop := exAgg 12 v fun l => match l with
  | [a0, a1, a2, a3, a4, a5, a6, a7, a8, a9, a10, a11] => k a0 a1 a2 a3 a4 a5 a6 a7 a8 a9 a10 a11
  | _ => False
@[simp] theorem exA12_agg (a0 a1 a2 a3 a4 a5 a6 a7 a8 a9 a10 a11 : AV) (k : AV → AV → AV → AV → AV → AV → AV → AV → AV → AV → AV → AV → Prop) : exA12 (.agg [a0, a1, a2, a3, a4, a5, a6, a7, a8, a9, a10, a11]) k = k a0 a1 a2 a3 a4 a5 a6 a7 a8 a9 a10 a11 := rfl
def exA13 (v : AV) (k : AV → AV → AV → AV → AV → AV → AV → AV → AV → AV → AV → AV → AV → Prop) : Prop := exAgg 13 v fun l => match l with
  | [a0, a1, a2, a3, a4, a5, a6, a7, a8, a9, a10, a11, a12] => k a0 a1 a2 a3 a4 a5 a6 a7 a8 a9 a10 a11 a12
  | _ => False
@[simp] theorem exA13_agg (a0 a1 a2 a3 a4 a5 a6 a7 a8 a9 a10 a11 a12 : AV) (k : AV → AV → AV → AV → AV → AV → AV → AV → AV → AV → AV → AV → AV → Prop) : exA13 (.agg [a0, a1, a2, a3, a4, a5, a6, a7, a8, a9, a10, a11, a12]) k = k a0 a1 a2 a3 a4 a5 a6 a7 a8 a9 a10 a11 a12 := rfl
def exA14 (v : AV) (k : AV → AV → AV → AV → AV → AV → AV → AV → AV → AV → AV → AV → AV → AV → Prop) : Prop := exAgg 14 v fun l => match l with
  | [a0, a1, a2, a3, a4, a5, a6, a7, a8, a9, a10, a11, a12, a13] => k a0 a1 a2 a3 a4 a5 a6 a7 a8 a9 a10 a11 a12 a13
  | _ => False
@[simp] theorem exA14_agg (a0 a1 a2 a3 a4 a5 a6 a7 a8 a9 a10 a11 a12 a13 : AV) (k : AV → AV → AV → AV → AV → AV → AV → AV → AV → AV → AV → AV → AV → AV → Prop) : exA14 (.agg [a0, a1, a2, a3, a4, a5, a6, a7, a8, a9, a10, a11, a12, a13]) k = k a0 a1 a2 a3 a4 a5 a6 a7 a8 a9 a10 a11 a12 a13 := rfl
def exA15 (v : AV) (k : AV → AV → AV → AV → AV → AV → AV → AV → AV → AV → AV → AV → AV → AV → AV → Prop) : Prop := exAgg 15 v fun l => match l with
  | [a0, a1, a2, a3, a4, a5, a6, a7, a8, a9, a10, a11, a12, a13, a14] => k a0 a1 a2 a3 a4 a5 a6 a7 a8 a9 a10 a11 a12 a13 a14
  | _ => False
@[simp] theorem exA15_agg (a0 a1 a2 a3 a4 a5 a6 a7 a8 a9 a10 a11 a12 a13 a14 : AV) (k : AV → AV → AV → AV → AV → AV → AV → AV → AV → AV → AV → AV → AV → AV → AV → Prop) : exA15 (.agg [a0, a1, a2, a3, a4, a5, a6, a7, a8, a9, a10, a11, a12, a13, a14]) k = k a0 a1 a2 a3 a4 a5 a6 a7 a8 a9 a10 a11 a12 a13 a14 := rfl
def exA16 (v : AV) (k : AV → AV → AV → AV → AV → AV → AV → AV → AV → AV → AV → AV → AV → AV → AV → AV → Prop) : Prop := exAgg 16 v fun l => match l with
  | [a0, a1, a2, a3, a4, a5, a6, a7, a8, a9, a10, a11, a12, a13, a14, a15] => k a0 a1 a2 a3 a4 a5 a6 a7 a8 a9 a10 a11 a12 a13 a14 a15
  | _ => False
@[simp] theorem exA16_agg (a0 a1 a2 a3 a4 a5 a6 a7 a8 a9 a10 a11 a12 a13 a14 a15 : AV) (k : AV → AV → AV → AV → AV → AV → AV → AV → AV → AV → AV → AV → AV → AV → AV → AV → Prop) : exA16 (.agg [a0, a1, a2, a3, a4, a5, a6, a7, a8, a9, a10, a11, a12, a13, a14, a15]) k = k a0 a1 a2 a3 a4 a5 a6 a7 a8 a9 a10 a11 a12 a13 a14 a15 := rfl
def exA17 (v : AV) (k : AV → AV → AV → AV → AV → AV → AV → AV → AV → AV → AV → AV → AV → AV → AV → AV → AV → Prop) : Prop := exAgg 17 v fun l => match l with
  | [a0, a1, a2, a3, a4, a5, a6, a7, a8, a9, a10, a11, a12, a13, a14, a15, a16] => k a0 a1 a2 a3 a4 a5 a6 a7 a8 a9 a10 a11 a12 a13 a14 a15 a16
  | _ => False
@[simp] theorem exA17_agg (a0 a1 a2 a3 a4 a5 a6 a7 a8 a9 a10 a11 a12 a13 a14 a15 a16 : AV) (k : AV → AV → AV → AV → AV → AV → AV → AV → AV → AV → AV → AV → AV → AV → AV → AV → AV → Prop) : exA17 (.agg [a0, a1, a2, a3, a4, a5, a6, a7, a8, a9, a10, a11, a12, a13, a14, a15, a16]) k = k a0 a1 a2 a3 a4 a5 a6 a7 a8 a9 a10 a11 a12 a13 a14 a15 a16 := rfl
def exA18 (v : AV) (k : AV → AV → AV → AV → AV → AV → AV → AV → AV → AV → AV → AV → AV → AV → AV → AV → AV → AV → Prop) : Prop := exAgg 18 v fun l => match l with
  | [a0, a1, a2, a3, a4, a5, a6, a7, a8, a9, a10, a11, a12, a13, a14, a15, a16, a17] => k a0 a1 a2 a3 a4 a5 a6 a7 a8 a9 a10 a11 a12 a13 a14 a15 a16 a17
  | _ => False
@[simp] theorem exA18_agg (a0 a1 a2 a3 a4 a5 a6 a7 a8 a9 a10 a11 a12 a13 a14 a15 a16 a17 : AV) (k : AV → AV → AV → AV → AV → AV → AV → AV → AV → AV → AV → AV → AV → AV → AV → AV → AV → AV → Prop) : exA18 (.agg [a0, a1, a2, a3, a4, a5, a6, a7, a8, a9, a10, a11, a12, a13, a14, a15, a16, a17]) k = k a0 a1 a2 a3 a4 a5 a6 a7 a8 a9 a10 a11 a12 a13 a14 a15 a16 a17 := rfl
def exA19 (v : AV) (k : AV → AV → AV → AV → AV → AV → AV → AV → AV → AV → AV → AV → AV → AV → AV → AV → AV → AV → AV → Prop) : Prop := exAgg 19 v fun l => match l with
  | [a0, a1, a2, a3, a4, a5, a6, a7, a8, a9, a10, a11, a12, a13, a14, a15, a16, a17, a18] => k a0 a1 a2 a3 a4 a5 a6 a7 a8 a9 a10 a11 a12 a13 a14 a15 a16 a17 a18
  | _ => False
@[simp] theorem exA19_agg (a0 a1 a2 a3 a4 a5 a6 a7 a8 a9 a10 a11 a12 a13 a14 a15 a16 a17 a18 : AV) (k : AV → AV → AV → AV → AV → AV → AV → AV → AV → AV → AV → AV → AV → AV → AV → AV → AV → AV → AV → Prop) : exA19 (.agg [a0, a1, a2, a3, a4, a5, a6, a7, a8, a9, a10, a11, a12, a13, a14, a15, a16, a17, a18]) k = k a0 a1 a2 a3 a4 a5 a6 a7 a8 a9 a10 a11 a12 a13 a14 a15 a16 a17 a18 := rfl
def exA20 (v : AV) (k : AV → AV → AV → AV → AV → AV → AV → AV → AV → AV → AV → AV → AV → AV → AV → AV → AV → AV → AV → AV → Prop) : Prop := exAgg 20 v fun l => match l with
  | [a0, a1, a2, a3, a4, a5, a6, a7, a8, a9, a10, a11, a12, a13, a14, a15, a16, a17, a18, a19] => k a0 a1 a2 a3 a4 a5 a6 a7 a8 a9 a10 a11 a12 a13 a14 a15 a16 a17 a18 a19
  | _ => False
@[simp] theorem exA20_agg (a0 a1 a2 a3 a4 a5 a6 a7 a8 a9 a10 a11 a12 a13 a14 a15 a16 a17 a18 a19 : AV) (k : AV → AV → AV → AV → AV → AV → AV → AV → AV → AV → AV → AV → AV → AV → AV → AV → AV → AV → AV → AV → Prop) : exA20 (.agg [a0, a1, a2, a3, a4, a5, a6, a7, a8, a9, a10, a11, a12, a13, a14, a15, a16, a17, a18, a19]) k = k a0 a1 a2 a3 a4 a5 a6 a7 a8 a9 a10 a11 a12 a13 a14 a15 a16 a17 a18 a19 := rfl
def exA21 (v : AV) (k : AV → AV → AV → AV → AV → AV → AV → AV → AV → AV → AV → AV → AV → AV → AV → AV → AV → AV → AV → AV → AV → Prop) : Prop := exAgg 21 v fun l => match l with
  | [a0, a1, a2, a3, a4, a5, a6, a7, a8, a9, a10, a11, a12, a13, a14, a15, a16, a17, a18, a19, a20] => k a0 a1 a2 a3 a4 a5 a6 a7 a8 a9 a10 a11 a12 a13 a14 a15 a16 a17 a18 a19 a20
  | _ => False
@[simp] theorem exA21_agg (a0 a1 a2 a3 a4 a5 a6 a7 a8 a9 a10 a11 a12 a13 a14 a15 a16 a17 a18 a19 a20 : AV) (k : AV → AV → AV → AV → AV → AV → AV → AV → AV → AV → AV → AV → AV → AV → AV → AV → AV → AV → AV → AV → AV → Prop) : exA21 (.agg [a0, a1, a2, a3, a4, a5, a6, a7, a8, a9, a10, a11, a12, a13, a14, a15, a16, a17, a18, a19, a20]) k = k a0 a1 a2 a3 a4 a5 a6 a7 a8 a9 a10 a11 a12 a13 a14 a15 a16 a17 a18 a19 a20 := rfl
def exA22 (v : AV) (k : AV → AV → AV → AV → AV → AV → AV → AV → AV → AV → AV → AV → AV → AV → AV → AV → AV → AV → AV → AV → AV → AV → Prop) : Prop := exAgg 22 v fun l => match l with
  | [a0, a1, a2, a3, a4, a5, a6, a7, a8, a9, a10, a11, a12, a13, a14, a15, a16, a17, a18, a19, a20, a21] => k a0 a1 a2 a3 a4 a5 a6 a7 a8 a9 a10 a11 a12 a13 a14 a15 a16 a17 a18 a19 a20 a21
  | _ => False
@[simp] theorem exA22_agg (a0 a1 a2 a3 a4 a5 a6 a7 a8 a9 a10 a11 a12 a13 a14 a15 a16 a17 a18 a19 a20 a21 : AV) (k : AV → AV → AV → AV → AV → AV → AV → AV → AV → AV → AV → AV → AV → AV → AV → AV → AV → AV → AV → AV → AV → AV → Prop) : exA22 (.agg [a0, a1, a2, a3, a4, a5, a6, a7, a8, a9, a10, a11, a12, a13, a14, a15, a16, a17, a18, a19, a20, a21]) k = k a0 a1 a2 a3 a4 a5 a6 a7 a8 a9 a10 a11 a12 a13 a14 a15 a16 a17 a18 a19 a20 a21 := rfl
def exA23 (v : AV) (k : AV → AV → AV → AV → AV → AV → AV → AV → AV → AV → AV → AV → AV → AV → AV → AV → AV → AV → AV → AV → AV → AV → AV → Prop) : Prop := exAgg 23 v fun l => match l with
  | [a0, a1, a2, a3, a4, a5, a6, a7, a8, a9, a10, a11, a12, a13, a14, a15, a16, a17, a18, a19, a20, a21, a22] => k a0 a1 a2 a3 a4 a5 a6 a7 a8 a9 a10 a11 a12 a13 a14 a15 a16 a17 a18 a19 a20 a21 a22
  | _ => False
@[simp] theorem exA23_agg (a0 a1 a2 a3 a4 a5 a6 a7 a8 a9 a10 a11 a12 a13 a14 a15 a16 a17 a18 a19 a20 a21 a22 : AV) (k : AV → AV → AV → AV → AV → AV → AV → AV → AV → AV → AV → AV → AV → AV → AV → AV → AV → AV → AV → AV → AV → AV → AV → Prop) : exA23 (.agg [a0, a1, a2, a3, a4, a5, a6, a7, a8, a9, a10, a11, a12, a13, a14, a15, a16, a17, a18, a19, a20, a21, a22]) k = k a0 a1 a2 a3 a4 a5 a6 a7 a8 a9 a10 a11 a12 a13 a14 a15 a16 a17 a18 a19 a20 a21 a22 := rfl
def exA24 (v : AV) (k : AV → AV → AV → AV → AV → AV → AV → AV → AV → AV → AV → AV → AV → AV → AV → AV → AV → AV → AV → AV → AV → AV → AV → AV → Prop) : Prop := exAgg 24 v fun l => match l with
  | [a0, a1, a2, a3, a4, a5, a6, a7, a8, a9, a10, a11, a12, a13, a14, a15, a16, a17, a18, a19, a20, a21, a22, a23] => k a0 a1 a2 a3 a4 a5 a6 a7 a8 a9 a10 a11 a12 a13 a14 a15 a16 a17 a18 a19 a20 a21 a22 a23
  | _ => False
@[simp] theorem exA24_agg (a0 a1 a2 a3 a4 a5 a6 a7 a8 a9 a10 a11 a12 a13 a14 a15 a16 a17 a18 a19 a20 a21 a22 a23 : AV) (k : AV → AV → AV → AV → AV → AV → AV → AV → AV → AV → AV → AV → AV → AV → AV → AV → AV → AV → AV → AV → AV → AV → AV → AV → Prop) : exA24 (.agg [a0, a1, a2, a3, a4, a5, a6, a7, a8, a9, a10, a11, a12, a13, a14, a15, a16, a17, a18, a19, a20, a21, a22, a23]) k = k a0 a1 a2 a3 a4 a5 a6 a7 a8 a9 a10 a11 a12 a13 a14 a15 a16 a17 a18 a19 a20 a21 a22 a23 := rfl
def exT0 (v : AV) (k : Prop) : Prop := exTup 0 v fun l => match l with
  | [] => k
  | _ => False
@[simp] theorem exT0_tup (k : Prop) : exT0 (.tup []) k = k := rfl
def exT2 (v : AV) (k : AV → AV → Prop) : Prop := exTup 2 v fun l => match l with
  | [a0, a1] => k a0 a1
  | _ => False
@[simp] theorem exT2_tup (a0 a1 : AV) (k : AV → AV → Prop) : exT2 (.tup [a0, a1]) k = k a0 a1 := rfl
def exT3 (v : AV) (k : AV → AV → AV → Prop) : Prop := exTup 3 v fun l => match l with
  | [a0, a1, a2] => k a0 a1 a2
  | _ => False
@[simp] theorem exT3_tup (a0 a1 a2 : AV) (k : AV → AV → AV → Prop) : exT3 (.tup [a0, a1, a2]) k = k a0 a1 a2 := rfl
def exT4 (v : AV) (k : AV → AV → AV → AV → Prop) : Prop := exTup 4 v fun l => match l with
  | [a0, a1, a2, a3] => k a0 a1 a2 a3
  | _ => False
@[simp] theorem exT4_tup (a0 a1 a2 a3 : AV) (k : AV → AV → AV → AV → Prop) : exT4 (.tup [a0, a1, a2, a3]) k = k a0 a1 a2 a3 := rfl
def exT5 (v : AV) (k : AV → AV → AV → AV → AV → Prop) : Prop := exTup 5 v fun l => match l with
  | [a0, a1, a2, a3, a4] => k a0 a1 a2 a3 a4
  | _ => False
@[simp] theorem exT5_tup (a0 a1 a2 a3 a4 : AV) (k : AV → AV → AV → AV → AV → Prop) : exT5 (.tup [a0, a1, a2, a3, a4]) k = k a0 a1 a2 a3 a4 := rfl
def exT6 (v : AV) (k : AV → AV → AV → AV → AV → AV → Prop) : Prop := exTup 6 v fun l => match l with
  | [a0, a1, a2, a3, a4, a5] => k a0 a1 a2 a3 a4 a5
  | _ => False
@[simp] theorem exT6_tup (a0 a1 a2 a3 a4 a5 : AV) (k : AV → AV → AV → AV → AV → AV → Prop) : exT6 (.tup [a0, a1, a2, a3, a4, a5]) k = k a0 a1 a2 a3 a4 a5 := rfl
def exT7 (v : AV) (k : AV → AV → AV → AV → AV → AV → AV → Prop) : Prop := exTup 7 v fun l => match l with
  | [a0, a1, a2, a3, a4, a5, a6] => k a0 a1 a2 a3 a4 a5 a6
  | _ => False
@[simp] theorem exT7_tup (a0 a1 a2 a3 a4 a5 a6 : AV) (k : AV → AV → AV → AV → AV → AV → AV → Prop) : exT7 (.tup [a0, a1, a2, a3, a4, a5, a6]) k = k a0 a1 a2 a3 a4 a5 a6 := rfl
def exT8 (v : AV) (k : AV → AV → AV → AV → AV → AV → AV → AV → Prop) : Prop := exTup 8 v fun l => match l with
  | [a0, a1, a2, a3, a4, a5, a6, a7] => k a0 a1 a2 a3 a4 a5 a6 a7
  | _ => False
@[simp] theorem exT8_tup (a0 a1 a2 a3 a4 a5 a6 a7 : AV) (k : AV → AV → AV → AV → AV → AV → AV → AV → Prop) : exT8 (.tup [a0, a1, a2, a3, a4, a5, a6, a7]) k = k a0 a1 a2 a3 a4 a5 a6 a7 := rfl
@[simp] theorem ex_i8_sc (z : Int) (k : Int → Prop) : ex_i8 (.sc (.int .i8 z)) k = k z := rfl
@[simp] theorem ex_i16_sc (z : Int) (k : Int → Prop) : ex_i16 (.sc (.int .i16 z)) k = k z := rfl
@[simp] theorem ex_i32_sc (z : Int) (k : Int → Prop) : ex_i32 (.sc (.int .i32 z)) k = k z := rfl
@[simp] theorem ex_i64_sc (z : Int) (k : Int → Prop) : ex_i64 (.sc (.int .i64 z)) k = k z := rfl
@[simp] theorem ex_u8_sc (z : Int) (k : Int → Prop) : ex_u8 (.sc (.int .u8 z)) k = k z := rfl
@[simp] theorem ex_u16_sc (z : Int) (k : Int → Prop) : ex_u16 (.sc (.int .u16 z)) k = k z := rfl
@[simp] theorem ex_u32_sc (z : Int) (k : Int → Prop) : ex_u32 (.sc (.int .u32 z)) k = k z := rfl
@[simp] theorem ex_u64_sc (z : Int) (k : Int → Prop) : ex_u64 (.sc (.int .u64 z)) k = k z := rfl
@[simp] theorem exB_sc (b : Bool) (k : Bool → Prop) : exB (.sc (.bool b)) k = k b := rfl
@[simp] theorem exStr_sc (s : ByteArray) (k : ByteArray → Prop) : exStr (.sc (.string s)) k = k s := rfl
@[simp] theorem chk_true (p : Prop) : chk true p = p := rfl
/- results -/
def seqL : List (Option AV) → Option (List AV)
  | [] => some []
  | r :: rs => match r, seqL rs with
    | some v, some l => some (v :: l)
    | _, _ => none
def mkRes : Option (List AV) → Option AV
  | some [v] => some v
  | some l => some (.tup l)
  | none => none
def retL (R : AV → Mem → Prop) (m : Mem) (os : List (Option AV)) : Prop := match mkRes (seqL os) with
  | some v => R v m
  | none => False
def retQ (P : Program) (fn : Func) (R : AV → Mem → Prop) : AExit → St → Prop
  | .normal, s => (match aResults P fn s with | some v => R v s.m | none => False)
  | .ret, s => (match aResults P fn s with | some v => R v s.m | none => False)
  | _, _ => False
end Go.Proofs.Ytfhcciepaangiaa
