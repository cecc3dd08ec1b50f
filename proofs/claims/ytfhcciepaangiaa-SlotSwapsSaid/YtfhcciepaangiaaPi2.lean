/- A plain evaluator of Go code over plain values (definitions). -/
import Derived.Test.YtfhcciepaangiaaPi1
set_option linter.unusedVariables false
set_option linter.unusedSimpArgs false
namespace Go.Proofs.Ytfhcciepaangiaa

/- slots and memory as lists of pairs -/
def eget : List (Nat × AV) → Nat → AV
  | [], _ => .und
  | (j, v) :: r, i => bif Nat.beq j i then v else eget r i
def eput : List (Nat × AV) → Nat → AV → List (Nat × AV)
  | [], i, v => [(i, v)]
  | (j, u) :: r, i, v => bif Nat.beq j i then (i, v) :: r else (j, u) :: eput r i v
def mget : List (Nat × Option ABlk) → Nat → Option ABlk
  | [], _ => none
  | (j, v) :: r, i => bif Nat.beq j i then v else mget r i
def mput : List (Nat × Option ABlk) → Nat → Option ABlk → List (Nat × Option ABlk)
  | [], i, v => [(i, v)]
  | (j, u) :: r, i, v => bif Nat.beq j i then (i, v) :: r else (j, u) :: mput r i v
def mputs (m : List (Nat × Option ABlk)) : List (Nat × Option ABlk) → List (Nat × Option ABlk)
  | [] => m
  | (i, v) :: r => mputs (mput m i v) r

/- real values and plain ones -/
def ofCell : Value → Option AV
  | .slice none 0 0 => some .nils
  | .pointer none => some .nilp
  | v => bif isSc v then some (.sc v) else none
def ofCells : List Value → Option (List AV)
  | [] => some []
  | v :: vs => match ofCell v, ofCells vs with | some x, some xs => some (x :: xs) | _, _ => none
def ofVal : Value → Option AV
  | .agg cs => (ofCells cs.toList).map .agg
  | .tuple cs => (ofCells cs.toList).map .tup
  | v => ofCell v
def cellVal : AV → Option Value
  | .sc v => some v
  | .nilp => some (.pointer none)
  | .nils => some (.slice none 0 0)
  | _ => none
def cellVals : List AV → Option (List Value)
  | [] => some []
  | v :: vs => match cellVal v, cellVals vs with | some x, some xs => some (x :: xs) | _, _ => none
def toVal : AV → Option Value
  | .agg cs => (cellVals cs).map (fun l => .agg l.toArray)
  | .tup cs => (cellVals cs).map (fun l => .tuple l.toArray)
  | x => cellVal x
def isCell : AV → Bool
  | .und | .agg _ | .tup _ => false
  | _ => true
def acells : AV → Option (List AV)
  | .und | .tup _ => none
  | .agg cs => some cs
  | x => some [x]

/- an operation that looks at no world -/
def pureRun (P : Program) {α : Type} : Sem α → Option α
  | .pure a => some a
  | .program k => pureRun P (k P)
  | _ => none

def tsize (P : Program) (t : TypeId) : Option Nat := (P.info? t).map (·.size)
def tbytes (P : Program) (t : TypeId) : Option Nat := (P.info? t).map (·.bytes)
def tzero (P : Program) (t : TypeId) : Option Value := (P.info? t).bind (·.zero)
def isAggD : TypeDesc → Bool
  | .struct _ | .array _ _ => true
  | _ => false
def apart (P : Program) (t : TypeId) (cs : List AV) (off : Nat) : Option AV :=
  match P.underlying t with
  | none => none
  | some d =>
    bif isAggD d then
      match tsize P t with
      | none => none
      | some n => bif Nat.ble (off + n) cs.length then some (.agg ((cs.drop off).take n)) else none
    else cs[off]?
def aput (cells : List AV) (off : Nat) (new : List AV) : List AV := cells.take off ++ new ++ cells.drop (off + new.length)
def elemAt (esz : Nat) (cs : List AV) (i : Nat) : List AV := (cs.drop (i * esz)).take esz

abbrev Wr := List (Nat × Option ABlk)
abbrev Res := Option (AV × Wr)

def aLoad (P : Program) (look : Nat → Option ABlk) (t : TypeId) : AV → Res
  | .ptr id off => match look id with | some b => (apart P t b.cells off).map (·, []) | none => none
  | .ept cs off => (apart P t cs off).map (·, [])
  | _ => none
def aStore (P : Program) (look : Nat → Option ABlk) (t : TypeId) (a x : AV) : Res :=
  match a, acells x, tsize P t with
  | .ptr id off, some cs, some sz =>
    match look id with
    | some b => bif Nat.beq cs.length sz && Nat.ble (off + cs.length) b.cells.length && cs.all isCell then some (.und, [(id, some ⟨aput b.cells off cs, b.ty⟩)]) else none
    | none => none
  | _, _, _ => none
def aField (P : Program) (t : TypeId) (fi : Nat) : AV → Res
  | .ptr id off => match P.underlying t with
    | some (.struct fs) => match fs[fi]? with
      | some fd => match tsize P fd.type with
        | some (k + 1) => some (.ptr id (off + fd.offset), [])
        | _ => none
      | none => none
    | _ => none
  | .ept cs off => match P.underlying t with
    | some (.struct fs) => match fs[fi]? with
      | some fd => match tsize P fd.type with
        | some (k + 1) => some (.ept cs (off + fd.offset), [])
        | _ => none
      | none => none
    | _ => none
  | _ => none
def aIndexAddr (P : Program) (t : TypeId) (x i : AV) : Res :=
  match i with
  | .sc (.int _ z) =>
    match P.underlying t with
    | some (.slice e) => match tsize P e with
      | some sz => match x with
        | .sl id off esz n cap ex => bif decide (0 ≤ z) && decide (z < (n : Int)) then some (.ptr id (off + z.toNat * sz), []) else none
        | .lst n cs ex => bif decide (0 ≤ z) && decide (z < (n : Int)) then some (.ept (elemAt sz cs z.toNat) 0, []) else none
        | _ => none
      | none => none
    | some (.array len e) => match tsize P e with
      | some sz => match x with
        | .ptr id off => bif decide (0 ≤ z) && decide (z < (len : Int)) then some (.ptr id (off + z.toNat * sz), []) else none
        | .ept cs off => bif decide (0 ≤ z) && decide (z < (len : Int)) then some (.ept cs (off + z.toNat * sz), []) else none
        | _ => none
      | none => none
    | _ => none
  | _ => none
def aFieldV (P : Program) (t : TypeId) (fi : Nat) : AV → Res
  | .agg cs => match P.underlying t with
    | some (.struct fs) => match fs[fi]? with
      | some fd => (apart P fd.type cs fd.offset).map (·, [])
      | none => none
    | _ => none
  | _ => none
def aIndexV (P : Program) (t : TypeId) (x i : AV) : Res :=
  match x, i with
  | .agg cs, .sc (.int _ z) => match P.underlying t with
    | some (.array len e) => match tsize P e with
      | some sz => bif decide (0 ≤ z) && decide (z < (len : Int)) then (apart P e cs (z.toNat * sz)).map (·, []) else none
      | none => none
    | _ => none
  | _, _ => none
def afill (place : Nat → Option (Nat × Nat)) (cells : List AV) : List (Nat × AV) → Option (List AV)
  | [] => some cells
  | (i, v) :: rest =>
    match place i, acells v with
    | some (off, size), some cs => bif Nat.beq cs.length size && Nat.ble (off + size) cells.length then afill place (aput cells off cs) rest else none
    | _, _ => none
def optParts (ρ : Operand → Option AV) : List (Nat × Operand) → Option (List (Nat × AV))
  | [] => some []
  | (i, x) :: r => match ρ x, optParts ρ r with | some v, some l => some ((i, v) :: l) | _, _ => none
def opts (ρ : Operand → Option AV) : List Operand → Option (List AV)
  | [] => some []
  | x :: r => match ρ x, opts ρ r with | some v, some l => some (v :: l) | _, _ => none
def placesOf (P : Program) : List Field → Option (List (Nat × Nat))
  | [] => some []
  | f :: r => match tsize P f.type, placesOf P r with | some n, some l => some ((f.offset, n) :: l) | _, _ => none
def aBuild (P : Program) (t : TypeId) (parts : List (Nat × AV)) : Res :=
  match (tzero P t).bind ofVal with
  | some (.agg zs) => match P.underlying t with
    | some (.struct fs) => match placesOf P fs.toList with
      | some pl => (afill (fun i => pl[i]?) zs parts).map (fun cs => (.agg cs, []))
      | none => none
    | some (.array _ e) => match tsize P e with
      | some sz => (afill (fun i => some (i * sz, sz)) zs parts).map (fun cs => (.agg cs, []))
      | none => none
    | _ => none
  | _ => none
def rep {α : Type} (zs : List α) : Nat → List α
  | 0 => []
  | n + 1 => zs ++ rep zs n
def aBuildSlice (P : Program) (n : Nat) (t : TypeId) (len : Nat) (parts : List (Nat × AV)) : Res :=
  match P.underlying t with
  | some (.slice e) => match tsize P e, (tzero P e).bind (fun z => (ofVal z).bind acells) with
    | some sz, some zs => bif Nat.ble (len * sz) 16777216 && Nat.beq zs.length sz && Nat.ble 1 sz then
        match afill (fun i => some (i * sz, sz)) (rep zs len) parts with
        | some cs => some (.sl n 0 sz len len true, [(n, some ⟨cs, e⟩)])
        | none => none
      else none
    | _, _ => none
  | _ => none
def aMakeSlice (P : Program) (n : Nat) (t : TypeId) (l c : AV) : Res :=
  match l, c with
  | .sc (.int .i64 x), .sc (.int .i64 y) => match P.underlying t with
    | some (.slice e) => match tsize P e, tbytes P e, (tzero P e).bind (fun z => (ofVal z).bind acells) with
      | some sz, some by_, some zs => bif decide (0 ≤ x) && decide (x ≤ y) && decide (y * (by_ : Int) ≤ 140737488355328) && decide (y ≤ 4611686018427387904) && Nat.beq zs.length sz && Nat.ble 1 sz then
          some (.sl n 0 sz x.toNat y.toNat true, [(n, some ⟨rep zs y.toNat, e⟩)])
        else none
      | _, _, _ => none
    | _ => none
  | _, _ => none
/- the elements of a slice -/
def cellsOf (look : Nat → Option ABlk) (sz : Nat) : AV → Option (Nat × List AV)
  | .nils => some (0, [])
  | .lst n cs _ => bif Nat.beq cs.length (n * sz) then some (n, cs) else none
  | .sl id off esz n _ _ => match look id with
    | some b => bif Nat.ble (off + n * sz) b.cells.length && Nat.beq esz sz then some (n, (b.cells.drop off).take (n * sz)) else none
    | none => none
  | _ => none
def aAppend (P : Program) (look : Nat → Option ABlk) (n : Nat) (t tx : TypeId) (s x : AV) : Res :=
  match P.underlying t, P.underlying tx with
  | some (.slice e), some (.slice _) => match tsize P e, tbytes P e, (tzero P e).bind (fun z => (ofVal z).bind acells) with
    | some sz, some by_, some zs => match cellsOf look sz x with
      | some (m, xs) =>
        bif Nat.beq m 0 then
          match s with
          | .nils | .lst .. | .sl .. => some (s, [])
          | _ => none
        else
        match cellsOf look sz s with
        | some (k, old) =>
          bif Nat.ble ((k + m) * by_) 140737488355328 && Nat.ble (k + m) 4611686018427387904 && Nat.beq zs.length sz && Nat.ble 1 sz && xs.all isCell && Nat.beq xs.length (m * sz) && Nat.beq old.length (k * sz) then
            match s with
            | .nils => some (.sl n 0 sz (k + m) (k + m) false, [(n, some ⟨old ++ xs, e⟩)])
            | .lst _ _ true => some (.sl n 0 sz (k + m) (k + m) false, [(n, some ⟨old ++ xs, e⟩)])
            | .sl id off esz _ cap ex =>
              bif Nat.ble (k + m) cap then
                match look id with
                | some b => bif Nat.ble (off + (k + m) * sz) b.cells.length then some (.sl id off sz (k + m) cap ex, [(id, some ⟨aput b.cells (off + k * sz) xs, b.ty⟩)]) else none
                | none => none
              else bif ex then some (.sl n 0 sz (k + m) (k + m) false, [(n, some ⟨old ++ xs, e⟩)])
              else bif Nat.beq off 0 && (match look id with | some b => Nat.beq b.ty e | none => false) then some (.sl n 0 sz (k + m) (k + m) false, [(n, some ⟨old ++ xs, e⟩), (id, none)])
              else none
            | _ => none
          else none
        | none => none
      | none => none
    | _, _, _ => none
  | _, _ => none
def aLen (P : Program) (t : TypeId) (x : AV) : Res :=
  match P.underlying t, x with
  | some (.slice _), .nils => some (.sc (.int .i64 0), [])
  | some (.slice _), .lst n _ _ => some (.sc (.int .i64 n), [])
  | some (.slice _), .sl _ _ _ n _ _ => some (.sc (.int .i64 n), [])
  | some .string, .sc (.string s) => some (.sc (.int .i64 s.size), [])
  | some (.array n _), _ => some (.sc (.int .i64 n), [])
  | _, _ => none
def bnd (dflt : Nat) : Option AV → Option Nat
  | none => some dflt
  | some (.sc (.int _ z)) => bif decide (0 ≤ z) then some z.toNat else none
  | _ => none
/- x[lo:hi:max] of a slice -/
def aSlice (P : Program) (look : Nat → Option ABlk) (t : TypeId) (x : AV) (lo hi mx : Option AV) : Res :=
  match P.underlying t with
  | some (.slice e) => match tsize P e with
    | some sz => match x with
      | .nils => match bnd 0 lo, bnd 0 hi, bnd 0 mx with
        | some 0, some 0, some 0 => bif mx.isSome && hi.isNone then none else some (.nils, [])
        | _, _, _ => none
      | .lst n cs ex => match bnd 0 lo, bnd n hi, bnd n mx with
        | some l, some h, some m => bif Nat.ble l h && Nat.ble h m && Nat.ble m n && Nat.beq cs.length (n * sz) && !(mx.isSome && hi.isNone) then
            some (.lst (h - l) ((cs.drop (l * sz)).take ((h - l) * sz)) (mx.isSome && Nat.beq h m), []) else none
        | _, _, _ => none
      | .sl id off esz n cap ex => match bnd 0 lo, bnd n hi, bnd cap mx with
        | some l, some h, some m => bif Nat.ble l h && Nat.ble h m && Nat.ble m cap && Nat.beq esz sz && !(mx.isSome && hi.isNone) then
            bif Nat.beq l m then some (.lst 0 [] (ex || mx.isSome), []) else some (.sl id (off + l * sz) sz (h - l) (m - l) (ex || mx.isSome), [])
          else none
        | _, _, _ => none
      | _ => none
    | none => none
  | some (.array len e) => match tsize P e with
    | some sz => match x with
      | .ptr id off => match look id, bnd 0 lo, bnd len hi, bnd len mx with
        | some b, some l, some h, some m => bif Nat.ble l h && Nat.ble h m && Nat.ble m len && Nat.ble (off + len * sz) b.cells.length && Nat.ble len 4611686018427387904 && !(mx.isSome && hi.isNone) then
            bif Nat.beq l m then some (.lst 0 [] true, []) else some (.sl id (off + l * sz) sz (h - l) (m - l) true, [])
          else none
        | _, _, _, _ => none
      | .ept cs off => match bnd 0 lo, bnd len hi, bnd len mx with
        | some l, some h, some m => bif Nat.ble l h && Nat.ble h m && Nat.ble m len && Nat.ble (off + len * sz) cs.length && Nat.ble len 4611686018427387904 && !(mx.isSome && hi.isNone) then
            bif Nat.beq l m then some (.lst 0 [] true, []) else some (.lst (h - l) ((cs.drop (off + l * sz)).take ((h - l) * sz)) (Nat.beq h m), [])
          else none
        | _, _, _ => none
      | _ => none
    | none => none
  | _ => none
def aCopy (P : Program) (look : Nat → Option ABlk) (t tx : TypeId) (d s : AV) : Res :=
  match P.underlying t with
  | some (.slice e) => match tsize P e with
    | some sz => match cellsOf look sz s with
      | some (m, xs) => match d with
        | .sl id off esz n cap ex => match look id with
          | some b => bif Nat.ble (off + n * sz) b.cells.length && xs.all isCell && Nat.beq esz sz then
              some (.sc (.int .i64 ((Nat.min m n : Nat) : Int)), [(id, some ⟨aput b.cells off (xs.take (Nat.min m n * sz)), b.ty⟩)]) else none
          | none => none
        | _ => none
      | none => none
    | none => none
  | _ => none
def aClear (P : Program) (look : Nat → Option ABlk) (t : TypeId) (d : AV) : Res :=
  match P.underlying t with
  | some (.slice e) => match d with
    | .nils => some (.tup [], [])
    | .lst 0 _ _ => some (.tup [], [])
    | .sl id off esz 0 cap ex => some (.tup [], [])
    | .sl id off esz (n + 1) cap ex => match tsize P e, (tzero P e).bind (fun z => (ofVal z).bind acells), look id with
      | some sz, some zs, some b => bif Nat.ble (off + (n + 1) * sz) b.cells.length && zs.all isCell && Nat.beq esz sz && Nat.beq zs.length sz && Nat.ble 1 sz then
          some (.tup [], [(id, some ⟨aput b.cells off (rep zs (n + 1)), b.ty⟩)]) else none
      | _, _, _ => none
    | _ => none
  | _ => none
/- == and != of a slice or a pointer with nil -/
def aNil : AV → Option (Bool × Bool)
  | .nils => some (true, true)
  | .nilp => some (false, true)
  | .lst _ (_ :: _) _ | .sl .. => some (true, false)
  | .ptr .. | .ept .. => some (false, false)
  | _ => none
def nilTy (P : Program) (t : TypeId) (s s' : Bool) : Bool :=
  match P.underlying t with
  | some (.slice _) => s && s'
  | some (.pointer _) => !s && !s'
  | _ => false
def fastBin (op : BinOp) (x y : Value) : Option Value :=
  match x, y with
  | .int k a, .int k' b => if k = k' then
      match op with
      | .add => some (.int k (k.wrap (a + b)))
      | .sub => some (.int k (k.wrap (a - b)))
      | .mul => some (.int k (k.wrap (a * b)))
      | .quo => bif decide (b = 0) then none else some (.int k (k.wrap (a.tdiv b)))
      | .rem => bif decide (b = 0) then none else some (.int k (a.tmod b))
      | .eql => some (.bool (a == b))
      | .neq => some (.bool (a != b))
      | .lss => some (.bool (decide (a < b)))
      | .leq => some (.bool (decide (a ≤ b)))
      | .gtr => some (.bool (decide (a > b)))
      | .geq => some (.bool (decide (a ≥ b)))
      | _ => none
    else none
  | .string a, .string b =>
    match op with
    | .eql => some (.bool (a.toList == b.toList))
    | .neq => some (.bool (!(a.toList == b.toList)))
    | .lss => some (.bool (Op.bytesLess a.toList b.toList))
    | .leq => some (.bool (Op.bytesLess a.toList b.toList || a.toList == b.toList))
    | .gtr => some (.bool (!(Op.bytesLess a.toList b.toList || a.toList == b.toList)))
    | .geq => some (.bool (!(Op.bytesLess a.toList b.toList)))
    | _ => none
  | _, _ => none
def opVal (ρ : Operand → Option AV) (x : Operand) : Option Value := (ρ x).bind toVal
def allVal (ρ : Operand → Option AV) (l : List Operand) : Bool := l.all fun x => (opVal ρ x).isSome
def notSel : Op → Bool
  | .select .. => false
  | _ => true
def aPlain (P : Program) (ρ : Operand → Option AV) (o : Oper) : Res :=
  bif notSel o.op && allVal ρ o.op.operands.toList then
    match pureRun P (execOp (fun x => (opVal ρ x).getD undef) o) with
    | some (.value v) => (ofVal v).map (·, [])
    | _ => none
  else none
def aBin (P : Program) (ρ : Operand → Option AV) (o : Oper) (op : BinOp) (t : TypeId) (x y : Operand) : Res :=
  match ρ x, ρ y with
  | some (.sc a), some (.sc b) => match fastBin op a b with
    | some v => some (.sc v, [])
    | none => aPlain P ρ o
  | some a, some b => match op, aNil a, aNil b with
    | .eql, some (s, p), some (s', q) => bif (p || q) && nilTy P t s s' then some (.sc (.bool (p && q)), []) else none
    | .neq, some (s, p), some (s', q) => bif (p || q) && nilTy P t s s' then some (.sc (.bool (!(p && q))), []) else none
    | _, _, _ => aPlain P ρ o
  | _, _ => none

def byteCells (s : ByteArray) : List AV := s.data.toList.map fun b => .sc (.int .u8 b.toNat)
def byteOf : AV → Option UInt8
  | .sc (.int .u8 z) => bif decide (0 ≤ z) && decide (z < 256) then some (UInt8.ofNat z.toNat) else none
  | _ => none
def bytesOf : List AV → Option (List UInt8)
  | [] => some []
  | x :: xs => match byteOf x, bytesOf xs with | some b, some l => some (b :: l) | _, _ => none
def aConv (P : Program) (ρ : Operand → Option AV) (look : Nat → Option ABlk) (o : Oper) (src dst : TypeId) (x : Operand) : Res :=
  match ρ x, P.underlying src, P.underlying dst with
  | some (.sc (.string s)), some .string, some (.slice e) => match P.underlying e with
    | some (.int .u8) => bif Nat.ble s.size 4611686018427387904 then some (.lst s.size (byteCells s) false, []) else none
    | _ => none
  | some y, some (.slice e), some .string => match P.underlying e with
    | some (.int .u8) => match cellsOf look 1 y with
      | some (n, cs) => match bytesOf cs with
        | some l => some (.sc (.string ⟨l.toArray⟩), [])
        | none => none
      | none => none
    | _ => none
  | _, _, _ => aPlain P ρ o
/- one operation, calls apart -/
def aop (P : Program) (ρ : Operand → Option AV) (look : Nat → Option ABlk) (n : Nat) (o : Oper) : Res :=
  match o.op with
  | .move x | .assign x => (ρ x).map (·, [])
  | .pick c a b => match ρ c with
    | some (.sc (.bool t)) => (bif t then ρ a else ρ b).map (·, [])
    | _ => none
  | .alloc t => match (tzero P t).bind (fun z => (ofVal z).bind acells) with
    | some cs => some (.ptr n 0, [(n, some ⟨cs, t⟩)])
    | none => none
  | .box t x => match (ρ x).bind acells with
    | some cs => some (.ptr n 0, [(n, some ⟨cs, t⟩)])
    | none => none
  | .load t a => (ρ a).bind (aLoad P look t)
  | .store t a x => match ρ a, ρ x with
    | some a, some x => aStore P look t a x
    | _, _ => none
  | .fieldAddr t x fi => (ρ x).bind (aField P t fi)
  | .indexAddr t x i => match ρ x, ρ i with
    | some x, some i => aIndexAddr P t x i
    | _, _ => none
  | .field t x fi => (ρ x).bind (aFieldV P t fi)
  | .index t x i => match ρ x, ρ i with
    | some (.agg cs), some i => aIndexV P t (.agg cs) i
    | _, _ => aPlain P ρ o
  | .extract x i => match ρ x with
    | some (.tup vs) => (vs[i]?).map (·, [])
    | _ => none
  | .build t parts => (optParts ρ parts.toList).bind (aBuild P t)
  | .buildSlice t len parts => (optParts ρ parts.toList).bind (aBuildSlice P n t len)
  | .makeSlice t l c => match ρ l, ρ c with
    | some l, some c => aMakeSlice P n t l c
    | _, _ => none
  | .slice t x lo hi mx => match ρ x with
    | some (.sc _) => aPlain P ρ o
    | some x => match lo.mapM ρ, hi.mapM ρ, mx.mapM ρ with
      | some lo, some hi, some mx => aSlice P look t x lo hi mx
      | _, _, _ => none
    | none => none
  | .nilCheck x => match ρ x with
    | some (.ptr id off) => some (.ptr id off, [])
    | some (.ept cs off) => some (.ept cs off, [])
    | some (.fn f cs) => some (.fn f cs, [])
    | _ => none
  | .makeFunc (.func f) first caps => match first.toList with
    | [] => (opts ρ caps.toList).map (fun l => (.fn f l, []))
    | _ => none
  | .binOp op t x y _ => aBin P ρ o op t x y
  | .call { callee := .builtin .append, args, argTypes } => match args.toList, argTypes.toList with
    | [s, x], [t, tx] => match ρ s, ρ x with
      | some s, some x => aAppend P look n t tx s x
      | _, _ => none
    | _, _ => none
  | .call { callee := .builtin .len, args, argTypes } => match args.toList, argTypes.toList with
    | [x], [t] => (ρ x).bind (aLen P t)
    | _, _ => none
  | .call { callee := .builtin .copy, args, argTypes } => match args.toList, argTypes.toList with
    | [d, s], [t, tx] => match ρ d, ρ s with
      | some d, some s => aCopy P look t tx d s
      | _, _ => none
    | _, _ => none
  | .call { callee := .builtin .clear, args, argTypes } => match args.toList, argTypes.toList with
    | [d], [t] => (ρ d).bind (aClear P look t)
    | _, _ => none
  | .call { callee := .builtin .max, .. } => aPlain P ρ o
  | .call { callee := .builtin .min, .. } => aPlain P ρ o
  | .unOp .. => aPlain P ρ o
  | .convert src dst x => aConv P ρ look o src dst x
  | _ => none
/- the numbers that an operation may look at -/
def topId : AV → List Nat
  | .ptr id _ => [id]
  | .sl id .. => [id]
  | _ => []
def foot (ρ : Operand → Option AV) (o : Oper) : List Nat := o.op.operands.toList.flatMap fun x => match ρ x with | some v => topId v | none => []

end Go.Proofs.Ytfhcciepaangiaa
