/- The plain evaluator: calls, regions, code. -/
import Derived.Test.YtfhcciepaangiaaPi2
set_option linter.unusedVariables false
set_option linter.unusedSimpArgs false
namespace Go.Proofs.Ytfhcciepaangiaa

mutual
def clean : AV → Bool
  | .und => true
  | .sc _ => true
  | .agg cs => cleans cs
  | .tup cs => cleans cs
  | .nilp => true
  | .ptr _ _ => false
  | .ept cs _ => cleans cs
  | .nils => true
  | .lst _ cs _ => cleans cs
  | .sl _ _ _ _ _ _ => false
  | .fn _ cs => cleans cs
def cleans : List AV → Bool
  | [] => true
  | x :: xs => clean x && cleans xs
end
structure St where
  e : List (Nat × AV)
  m : List (Nat × Option ABlk)
  nx : Nat
/- which calls are made with memory of their own; what the package-level variables hold -/
structure Cfg where
  pm : FuncId → Bool
  gl : Nat → Option (List AV)
def rho (gl : Nat → Option (List AV)) (e : List (Nat × AV)) : Operand → Option AV
  | .tmp t => some (eget e t)
  | .const v => ofVal v
  | .func f => some (.fn f [])
  | .global g => (gl g).map fun cs => .ept cs 0
def awanted (ops : Array Oper) (e : List (Nat × AV)) (o : Oper) : Option Bool :=
  match o.guard with
  | none => some true
  | some (j, want) => match (ops[j]?).bind (·.dst) with
    | some d => match eget e d with
      | .sc (.bool b) => some (b == want)
      | .tup _ => some false
      | _ => none
    | none => none
abbrev CallF := FuncId → List AV → List (Nat × Option ABlk) → Nat → Option (AV × List (Nat × Option ABlk) × Nat)

/- what a call hands back: its memory is written no more -/
def mapO (f : AV → Option AV) : List AV → Option (List AV)
  | [] => some []
  | x :: xs => match f x, mapO f xs with | some y, some ys => some (y :: ys) | _, _ => none
def freeze (look : Nat → Option ABlk) : Nat → AV → Option AV
  | 0, _ => none
  | k + 1, .sl id off esz n cap ex => match look id with
    | some b => bif Nat.ble (off + n * esz) b.cells.length then (mapO (freeze look k) ((b.cells.drop off).take (n * esz))).map (fun l => .lst n l false) else none
    | none => none
  | k + 1, .agg cs => (mapO (freeze look k) cs).map .agg
  | k + 1, .tup cs => (mapO (freeze look k) cs).map .tup
  | k + 1, x => bif clean x then some x else none
/- an argument as it reads now -/
def snap (look : Nat → Option ABlk) : Nat → AV → Option AV
  | 0, _ => none
  | k + 1, .sl id off esz n cap ex => match look id with
    | some b => bif Nat.ble (off + n * esz) b.cells.length then (mapO (snap look k) ((b.cells.drop off).take (n * esz))).map (fun l => .lst n l false) else none
    | none => none
  | k + 1, .ptr id off => match look id with
    | some b => (mapO (snap look k) b.cells).map (fun l => .ept l off)
    | none => none
  | k + 1, .agg cs => (mapO (snap look k) cs).map .agg
  | k + 1, .tup cs => (mapO (snap look k) cs).map .tup
  | k + 1, .fn f cs => (mapO (snap look k) cs).map (.fn f)
  | k + 1, x => bif clean x then some x else none
/- the numbers that a value leads to -/
def reach (look : Nat → Option ABlk) : Nat → AV → List Nat
  | 0, _ => []
  | k + 1, .ptr id _ => id :: (match look id with | some b => b.cells.flatMap (reach look k) | none => [])
  | k + 1, .sl id _ _ _ _ _ => id :: (match look id with | some b => b.cells.flatMap (reach look k) | none => [])
  | k + 1, .agg cs => cs.flatMap (reach look k)
  | k + 1, .tup cs => cs.flatMap (reach look k)
  | k + 1, .fn _ cs => cs.flatMap (reach look k)
  | _ + 1, _ => []
def isScA : AV → Bool
  | .sc _ => true
  | _ => false
def scalarRes : AV → Bool
  | .sc _ => true
  | .agg cs => cs.all isScA
  | .tup cs => cs.all isScA
  | _ => false
def pureCall (cf : CallF) (look : Nat → Option ABlk) (g : FuncId) (args : List AV) : Res :=
  bif cleans args then
    match cf g args [] 0 with
    | some (v, m, _) => match freeze (mget m) 6 v with
      | some v' => bif clean v' then some (v', []) else none
      | none => none
    | none => none
  else
    match mapO (snap look 6) args with
    | some ar => match cf g ar [] 0 with
      | some (v, _, _) => bif scalarRes v then some (v, []) else none
      | none => none
    | none => none
/- a call whose answer is a slice of its own memory: from now on the caller's -/
def madeOf (n : Nat) (m : List (Nat × Option ABlk)) : AV → Res
  | .sl id off esz k cap ex => match mget m id with
    | some b => bif cleans b.cells then some (.sl n off esz k cap ex, [(n, some b)]) else none
    | none => none
  | _ => none
def madeCall (cf : CallF) (look : Nat → Option ABlk) (n : Nat) (g : FuncId) (args : List AV) : Res :=
  bif cleans args then
    match cf g args [] 0 with
    | some (v, m, _) => madeOf n m v
    | none => none
  else
    match mapO (snap look 6) args with
    | some ar => match cf g ar [] 0 with
      | some (v, m, _) => match madeOf n m v with
        | some (v', [(i, some b)]) => bif b.cells.all isScA then some (v', [(i, some b)]) else none
        | _ => none
      | none => none
    | none => none
/- one operation that leaves the rest of the memory alone; a call on memory that is shared -/
def opStep (P : Program) (K : Cfg) (cf : CallF) (dr : Bool) (e : List (Nat × AV)) (look : Nat → Option ABlk) (n : Nat) (o : Oper) : Res :=
  match o.op with
  | .call { callee := .value g, args, .. } => match rho K.gl e g, opts (rho K.gl e) args.toList with
    | some (.fn g caps), some ar => bif dr then (match madeCall cf look n g (ar ++ caps) with
        | some r => some r
        | none => pureCall cf look g (ar ++ caps)) else bif K.pm g then pureCall cf look g (ar ++ caps) else none
    | _, _ => none
  | _ => aop P (rho K.gl e) look n o
def callStep (K : Cfg) (cf : CallF) (s : St) (o : Oper) : Option (AV × List (Nat × Option ABlk) × Nat) :=
  match o.op with
  | .call { callee := .value g, args, .. } => match rho K.gl s.e g, opts (rho K.gl s.e) args.toList with
    | some (.fn g caps), some ar => cf g (ar ++ caps) s.m s.nx
    | _, _ => none
  | _ => none
def evOp (P : Program) (K : Cfg) (cf : CallF) (s : St) (o : Oper) : Option (AV × List (Nat × Option ABlk) × Nat) :=
  match opStep P K cf false s.e (mget s.m) s.nx o with
  | some (v, d) => some (v, mputs s.m d, s.nx + 1)
  | none => callStep K cf s o
def putD (nt : Nat) (e : List (Nat × AV)) (dst : Option Nat) (v : AV) : Option (List (Nat × AV)) :=
  match dst with
  | none => some e
  | some d => bif Nat.blt d nt then some (eput e d v) else none
def evSeq (P : Program) (K : Cfg) (cf : CallF) (nt : Nat) (ops : Array Oper) : List Oper → St → Option St
  | [], s => some s
  | o :: r, s => match awanted ops s.e o with
    | some true => match evOp P K cf s o with
      | some (v, m, nx) => match putD nt s.e o.dst v with
        | some e => evSeq P K cf nt ops r ⟨e, m, nx⟩
        | none => none
      | none => none
    | some false => match putD nt s.e o.dst (.tup []) with
      | some e => evSeq P K cf nt ops r ⟨e, s.m, s.nx⟩
      | none => none
    | none => none

/- a region that draws its order -/
def edgeMask (o : Oper) (acc : List Nat) : Nat := o.after.toList.foldl (fun s e => bif Region.binds .any e then s ||| 2 ^ e.on ||| acc.getD e.on 0 else s) 0
def masks : List Oper → List Nat → List Nat
  | [], acc => acc
  | o :: r, acc => masks r (acc ++ [edgeMask o acc])
def ordB (ms : List Nat) (i j : Nat) : Bool := (ms.getD j 0).testBit i || (ms.getD i 0).testBit j
def tmpsOf (l : List Operand) : List Nat := l.filterMap fun | .tmp t => some t | _ => none
def namesOf (ops : Array Oper) (o : Oper) : List Nat := tmpsOf o.op.operands.toList ++ o.dst.toList ++ (match o.guard with | some (j, _) => ((ops[j]?).bind (·.dst)).toList | none => [])
def statOne (ops : Array Oper) (ms : List Nat) (l : List (Oper × Nat)) (o : Oper) (i : Nat) : Bool :=
  (o.after.toList.all fun e => !Region.binds .any e || Nat.blt e.on i) && notSel o.op &&
  match o.dst with
  | none => true
  | some t => l.all fun q => Nat.beq i q.2 || !(namesOf ops q.1).contains t || ordB ms i q.2
def statOk (ops : Array Oper) (ms : List Nat) : Bool := ops.toList.zipIdx.all fun q => statOne ops ms ops.toList.zipIdx q.1 q.2
structure Rec where
  d : Wr
  ft : List Nat
def look' (m : List (Nat × Option ABlk)) (ft : List Nat) (id : Nat) : Option ABlk := bif ft.contains id then mget m id else none
/- of the operations that look at memory -/
def footN (ρ : Operand → Option AV) (o : Oper) : List Nat :=
  match o.op with
  | .load .. => foot ρ o
  | .store .. => foot ρ o
  | .slice .. => foot ρ o
  | .convert .. => foot ρ o
  | .call .. => foot ρ o
  | _ => []
def footR (K : Cfg) (s : St) (o : Oper) : List Nat :=
  match o.op with
  | .call { callee := .value _, .. } => o.op.operands.toList.flatMap fun x => match rho K.gl s.e x with
    | some v => reach (mget s.m) 6 v
    | none => []
  | _ => footN (rho K.gl s.e) o
def evOpD (P : Program) (K : Cfg) (cf : CallF) (s : St) (o : Oper) : Res := opStep P K cf true s.e (look' s.m (footR K s o)) s.nx o
def evDraw (P : Program) (K : Cfg) (cf : CallF) (nt : Nat) (ops : Array Oper) : List Oper → St → List Rec → Option (St × List Rec)
  | [], s, rs => some (s, rs)
  | o :: r, s, rs => match awanted ops s.e o with
    | some true => match evOpD P K cf s o with
      | some (v, d) => match putD nt s.e o.dst v with
        | some e => evDraw P K cf nt ops r ⟨e, mputs s.m d, s.nx + 1⟩ (rs ++ [⟨d, footR K s o⟩])
        | none => none
      | none => none
    | some false => match putD nt s.e o.dst (.tup []) with
      | some e => evDraw P K cf nt ops r ⟨e, s.m, s.nx + 1⟩ (rs ++ [⟨[], []⟩])
      | none => none
    | none => none
def apartR (a b : Rec) : Bool := a.d.all fun p => !b.ft.contains p.1 && b.d.all fun q => !Nat.beq p.1 q.1
def confOk (ms : List Nat) (rs : List Rec) : Bool :=
  let l := rs.zipIdx
  l.all fun p => p.1.d.isEmpty || l.all fun q => Nat.beq p.2 q.2 || ordB ms p.2 q.2 || apartR p.1 q.1
def evRegion (P : Program) (K : Cfg) (cf : CallF) (nt : Nat) (ops : Array Oper) (draw : Bool) (s : St) : Option St :=
  bif draw then
    let ms := masks ops.toList []
    bif statOk ops ms then
      match evDraw P K cf nt ops ops.toList s [] with
      | some (s', rs) => bif confOk ms rs then some s' else none
      | none => none
    else none
  else evSeq P K cf nt ops ops.toList s

inductive AExit where
  | normal
  | exit (id : Nat)
  | ret
def iter (f : St → Option (AExit × St)) : Nat → St → Option (AExit × St)
  | 0, _ => none
  | k + 1, s => match f s with
    | some (.normal, s') => iter f k s'
    | r => r
def evCode (K : Cfg) (rg : Array Oper → Bool → St → Option St) (k : Nat) : Code → St → Option (AExit × St)
  | .skip, s => some (.normal, s)
  | .region _ ops d, s => (rg ops d s).map (fun s' => (.normal, s'))
  | .seq a b, s => match evCode K rg k a s with
    | some (.normal, s') => evCode K rg k b s'
    | r => r
  | .cond c a b, s => match rho K.gl s.e c with
    | some (.sc (.bool t)) => bif t then evCode K rg k a s else evCode K rg k b s
    | _ => none
  | .block id b, s => match evCode K rg k b s with
    | some (.exit j, s') => some (bif Nat.beq j id then .normal else .exit j, s')
    | r => r
  | .loop b, s => iter (evCode K rg k b) k s
  | .exit id, s => some (.exit id, s)
  | .ret, s => some (.ret, s)
  | .label _, s => some (.normal, s)
  | _, _ => none
def aResult (P : Program) (s : St) : ResultVar → Option AV
  | .tmp t => some (eget s.e t)
  | .cell a t => (aLoad P (mget s.m) t (eget s.e a)).map (·.1)
def aResultsL (P : Program) (s : St) : List ResultVar → Option (List AV)
  | [] => some []
  | r :: rs => match aResult P s r, aResultsL P s rs with | some v, some l => some (v :: l) | _, _ => none
def aResults (P : Program) (fn : Func) (s : St) : Option AV :=
  match aResultsL P s fn.results.toList with
  | some [v] => some v
  | some l => some (.tup l)
  | none => none
def initEnv : List AV → Nat → List (Nat × AV)
  | [], _ => []
  | a :: r, i => (i, a) :: initEnv r (i + 1)
def evFn (P : Program) (K : Cfg) : Nat → CallF
  | 0, _, _, _, _ => none
  | k + 1, f, args, m, nx => match P.funcs[f]? with
    | some fn => match fn.body with
      | some c => bif fn.name == "runtime.NumGoroutine" || Nat.blt fn.ntmps args.length then none else
          match evCode K (evRegion P K (evFn P K k) fn.ntmps) k c ⟨initEnv args 0, m, nx⟩ with
          | some (.normal, s) => (aResults P fn s).map (·, s.m, s.nx)
          | some (.ret, s) => (aResults P fn s).map (·, s.m, s.nx)
          | _ => none
      | none => none
    | none => none

end Go.Proofs.Ytfhcciepaangiaa
