/- Floats, bits of numbers, functions without a body: rules for printed texts. -/
import Derived.Test.YteaimbiojpjneaaGreatDoorPJ
import Derived.KernelRfl
set_option linter.unusedVariables false
set_option linter.unusedSimpArgs false
namespace Go.Proofs.YteaimbiojpjneaaGreatDoor
open Go.RowKit

abbrev fltA (x : Nat) : AV := .sc (.float .f64 x)
def fltE : En Nat where
  size := 1
  enc x := [fltA x]
  len _ := rfl
  pos := by decide
  cell _ := rfl
  cln _ := rfl
  nrm _ := rfl
def u64E : En Int where
  size := 1
  enc x := [.sc (.int .u64 x)]
  len _ := rfl
  pos := by decide
  cell _ := rfl
  cln _ := rfl
  nrm _ := rfl
theorem fltE.nf : NoFn fltE := by intro x c hc f l; simp only [fltE, List.mem_singleton] at hc; subst hc; exact (fun h => by cases h)
theorem u64E.nf : NoFn u64E := by intro x c hc f l; simp only [u64E, List.mem_singleton] at hc; subst hc; exact (fun h => by cases h)
def fAddO (a b : Nat) : Option Nat := FloatKind.f64.format.add a b
def fSubO (a b : Nat) : Option Nat := FloatKind.f64.format.sub a b
def fMulO (a b : Nat) : Option Nat := FloatKind.f64.format.mul a b
def fQuoO (a b : Nat) : Option Nat := FloatKind.f64.format.div a b
def fOrd (a b : Nat) : Option Ordering := FloatKind.f64.format.order a b
def fEq (a b : Nat) : Bool := fOrd a b == some .eq
def fNe (a b : Nat) : Bool := fOrd a b != some .eq
def fLt (a b : Nat) : Bool := fOrd a b == some .lt
def fLe (a b : Nat) : Bool := fOrd a b == some .lt || fOrd a b == some .eq
def fGt (a b : Nat) : Bool := fOrd a b == some .gt
def fGe (a b : Nat) : Bool := fOrd a b == some .gt || fOrd a b == some .eq
def fNeg (a : Nat) : Nat := Op.negFloat .f64 a
def i2f (z : Int) : Nat := FloatKind.f64.nearest z
def f2iO (k : IntKind) (x : Nat) : Option Int := match (FloatKind.f64.decode x).toInt .zero with
  | some n => if k.min ≤ n ∧ n ≤ k.max then some n else none
  | none => none
def floorO (x : Nat) : Option Nat := match FloatKind.f64.decode x with
  | .nan _ _ => none
  | d => some (FloatKind.f64.encode (d.integral .down))
def bAnd (k : IntKind) (x y : Int) : Int := k.wrap (BitVec.ofInt k.bits x &&& BitVec.ofInt k.bits y).toNat
def bOr (k : IntKind) (x y : Int) : Int := k.wrap (BitVec.ofInt k.bits x ||| BitVec.ofInt k.bits y).toNat
def bXor (k : IntKind) (x y : Int) : Int := k.wrap (BitVec.ofInt k.bits x ^^^ BitVec.ofInt k.bits y).toNat
def bAndNot (k : IntKind) (x y : Int) : Int := k.wrap (BitVec.ofInt k.bits x &&& ~~~(BitVec.ofInt k.bits y)).toNat
def shrO (k : IntKind) (a b : Int) : Option Int := if b < 0 then none else some (a.fdiv (2 ^ min b.toNat k.bits))
def shlO (k : IntKind) (a b : Int) : Option Int := if b < 0 then none else some (k.wrap (a * 2 ^ min b.toNat k.bits))
section
variable {P : Program} {look : Nat → Option ABlk} {t yt ty n : Nat}
theorem opA_run {op : Op} {vals : List AV} {v : Value} {u : AV} {m : Sem Value} (e : opA P op ty vals look n = aPlain P (rhoV vals) ⟨none, op, ty, "", #[], none⟩) (h1 : (notSel op && allVal (rhoV vals) op.operands.toList) = true) (h2 : execOp (fun x => (opVal (rhoV vals) x).getD undef) ⟨none, op, ty, "", #[], none⟩ = (m >>= fun v => pure (Next.value v))) (hm : pureRun P m = some v) (h3 : ofVal v = some u) : opA P op ty vals look n = some (u, []) := by
  rw [e]
  unfold aPlain
  rw [h1, cond_true, h2, pureRun_bind, hm]
  show (ofVal v).map (·, []) = _
  rw [h3]; rfl
theorem run_arith {op : BinOp} {a b r : Nat} (h : (match op with | .add => fAddO a b | .sub => fSubO a b | .mul => fMulO a b | .quo => fQuoO a b | _ => none) = some r) : pureRun P (Op.floatArith op .f64 a b) = some (.float .f64 r) := by
  cases op <;> simp only [reduceCtorEq] at h <;> (unfold Op.floatArith; simp only [pureRun_bind, pureRun_pure, Option.bind_some]) <;> first
    | (unfold fAddO at h; rw [h]; rfl)
    | (unfold fSubO at h; rw [h]; rfl)
    | (unfold fMulO at h; rw [h]; rfl)
    | (unfold fQuoO at h; rw [h]; rfl)
theorem opA_fadd {a b r : Nat} (h : fAddO a b = some r) : opA P (.binOp .add t (.tmp 0) (.tmp 1) yt) ty [fltA a, fltA b] look n = some (fltA r, []) := opA_run rfl rfl (m := Op.floatArith .add .f64 a b) rfl (run_arith (op := .add) h) rfl
theorem opA_fsub {a b r : Nat} (h : fSubO a b = some r) : opA P (.binOp .sub t (.tmp 0) (.tmp 1) yt) ty [fltA a, fltA b] look n = some (fltA r, []) := opA_run rfl rfl (m := Op.floatArith .sub .f64 a b) rfl (run_arith (op := .sub) h) rfl
theorem opA_fmul {a b r : Nat} (h : fMulO a b = some r) : opA P (.binOp .mul t (.tmp 0) (.tmp 1) yt) ty [fltA a, fltA b] look n = some (fltA r, []) := opA_run rfl rfl (m := Op.floatArith .mul .f64 a b) rfl (run_arith (op := .mul) h) rfl
theorem opA_fquo {a b r : Nat} (h : fQuoO a b = some r) : opA P (.binOp .quo t (.tmp 0) (.tmp 1) yt) ty [fltA a, fltA b] look n = some (fltA r, []) := opA_run rfl rfl (m := Op.floatArith .quo .f64 a b) rfl (run_arith (op := .quo) h) rfl
theorem opA_feql (a b : Nat) : opA P (.binOp .eql t (.tmp 0) (.tmp 1) yt) ty [fltA a, fltA b] look n = some (boolA (fEq a b), []) := opA_run rfl rfl (m := Op.floatCmp .eql .f64 a b) rfl rfl rfl
theorem opA_fneq (a b : Nat) : opA P (.binOp .neq t (.tmp 0) (.tmp 1) yt) ty [fltA a, fltA b] look n = some (boolA (fNe a b), []) := opA_run rfl rfl (m := Op.floatCmp .neq .f64 a b) rfl rfl rfl
theorem opA_flss (a b : Nat) : opA P (.binOp .lss t (.tmp 0) (.tmp 1) yt) ty [fltA a, fltA b] look n = some (boolA (fLt a b), []) := opA_run rfl rfl (m := Op.floatCmp .lss .f64 a b) rfl rfl rfl
theorem opA_fleq (a b : Nat) : opA P (.binOp .leq t (.tmp 0) (.tmp 1) yt) ty [fltA a, fltA b] look n = some (boolA (fLe a b), []) := opA_run rfl rfl (m := Op.floatCmp .leq .f64 a b) rfl rfl rfl
theorem opA_fgtr (a b : Nat) : opA P (.binOp .gtr t (.tmp 0) (.tmp 1) yt) ty [fltA a, fltA b] look n = some (boolA (fGt a b), []) := opA_run rfl rfl (m := Op.floatCmp .gtr .f64 a b) rfl rfl rfl
theorem opA_fgeq (a b : Nat) : opA P (.binOp .geq t (.tmp 0) (.tmp 1) yt) ty [fltA a, fltA b] look n = some (boolA (fGe a b), []) := opA_run rfl rfl (m := Op.floatCmp .geq .f64 a b) rfl rfl rfl
theorem opA_fneg (a : Nat) : opA P (.unOp .neg t (.tmp 0)) ty [fltA a] look n = some (fltA (fNeg a), []) := rfl
theorem opA_band {k : IntKind} (a b : Int) : opA P (.binOp .and t (.tmp 0) (.tmp 1) yt) ty [.sc (.int k a), .sc (.int k b)] look n = some (.sc (.int k (bAnd k a b)), []) := by cases k <;> exact opA_run rfl rfl (m := Op.intBits .and _ a b) rfl rfl rfl
theorem opA_bor {k : IntKind} (a b : Int) : opA P (.binOp .or t (.tmp 0) (.tmp 1) yt) ty [.sc (.int k a), .sc (.int k b)] look n = some (.sc (.int k (bOr k a b)), []) := by cases k <;> exact opA_run rfl rfl (m := Op.intBits .or _ a b) rfl rfl rfl
theorem opA_bxor {k : IntKind} (a b : Int) : opA P (.binOp .xor t (.tmp 0) (.tmp 1) yt) ty [.sc (.int k a), .sc (.int k b)] look n = some (.sc (.int k (bXor k a b)), []) := by cases k <;> exact opA_run rfl rfl (m := Op.intBits .xor _ a b) rfl rfl rfl
theorem opA_bandNot {k : IntKind} (a b : Int) : opA P (.binOp .andNot t (.tmp 0) (.tmp 1) yt) ty [.sc (.int k a), .sc (.int k b)] look n = some (.sc (.int k (bAndNot k a b)), []) := by cases k <;> exact opA_run rfl rfl (m := Op.intBits .andNot _ a b) rfl rfl rfl
theorem run_shr {k k' : IntKind} {a b r : Int} (h : shrO k a b = some r) : pureRun P (Op.shift .shr k a k' b) = some (.int k r) := by
  unfold shrO at h
  split at h
  · cases h
  · rename_i hb
    cases h
    unfold Op.shift
    rw [if_neg hb]; rfl
theorem run_shl {k k' : IntKind} {a b r : Int} (h : shlO k a b = some r) : pureRun P (Op.shift .shl k a k' b) = some (.int k r) := by
  unfold shlO at h
  split at h
  · cases h
  · rename_i hb
    cases h
    unfold Op.shift
    rw [if_neg hb]; rfl
theorem opA_shr {k : IntKind} {a b r : Int} (h : shrO k a b = some r) : opA P (.binOp .shr t (.tmp 0) (.tmp 1) yt) ty [.sc (.int k a), .sc (.int k b)] look n = some (.sc (.int k r), []) := by
  have hr := run_shr (P := P) (k' := k) h
  cases k <;> exact opA_run rfl rfl rfl hr rfl
theorem opA_shl {k : IntKind} {a b r : Int} (h : shlO k a b = some r) : opA P (.binOp .shl t (.tmp 0) (.tmp 1) yt) ty [.sc (.int k a), .sc (.int k b)] look n = some (.sc (.int k r), []) := by
  have hr := run_shl (P := P) (k' := k) h
  cases k <;> exact opA_run rfl rfl rfl hr rfl
theorem run_und {t : TypeId} {d : TypeDesc} (h : P.underlying t = some d) : pureRun P (underlying t) = some d := by
  unfold underlying
  rw [pureRun_bind, show pureRun P program = some P from rfl, Option.bind_some]
  show pureRun P (match P.underlying t with | some d => pure d | none => stuck "no such type") = _
  rw [h]; rfl
theorem run_f2i {k : IntKind} {x : Nat} {r : Int} (h : f2iO k x = some r) : pureRun P (Conv.floatToInt .f64 x k) = some (.int k r) := by
  unfold f2iO at h
  unfold Conv.floatToInt
  split at h
  · rename_i m hm
    split at h
    · rename_i hb
      cases h
      simp only [hm, hb, and_self, if_true]
      rfl
    · cases h
  · cases h
theorem opA_f2i {src dst : TypeId} {k : IntKind} {x : Nat} {r : Int} (h1 : P.underlying src = some (.float .f64)) (h2 : P.underlying dst = some (.int k)) (h : f2iO k x = some r) : opA P (.convert src dst (.tmp 0)) ty [fltA x] look n = some (.sc (.int k r), []) := by
  refine opA_run (v := .int k r) (m := convert src dst (.float .f64 x)) ?_ rfl rfl ?_ rfl
  · show aConv P (rhoV [fltA x]) look _ src dst (.tmp 0) = _
    unfold aConv
    rw [h1, h2]; rfl
  · unfold convert
    have u1 : pureRun P (underlying src) = some (.float .f64) := run_und h1
    have u2 : pureRun P (underlying dst) = some (.int k) := run_und h2
    rw [pureRun_bind, u1, Option.bind_some, pureRun_bind, u2, Option.bind_some]
    exact run_f2i h
theorem opA_i2f {src dst : TypeId} {k : IntKind} {z : Int} (h1 : P.underlying src = some (.int k)) (h2 : P.underlying dst = some (.float .f64)) : opA P (.convert src dst (.tmp 0)) ty [.sc (.int k z)] look n = some (fltA (i2f z), []) := by
  refine opA_run (v := .float .f64 (i2f z)) (m := convert src dst (.int k z)) ?_ rfl rfl ?_ rfl
  · show aConv P (rhoV [.sc (.int k z)]) look _ src dst (.tmp 0) = _
    unfold aConv
    rw [h1, h2]; rfl
  · unfold convert
    have u1 : pureRun P (underlying src) = some (.int k) := run_und h1
    have u2 : pureRun P (underlying dst) = some (.float .f64) := run_und h2
    rw [pureRun_bind, u1, Option.bind_some, pureRun_bind, u2, Option.bind_some]
    rfl
/- functions without a body -/
theorem callQ_ext {gl : Nat → Option (List AV)} {m : Mem} {f : FuncId} {args : List AV} {v : AV} {k : AV → Prop} (h : ExtD P f args v) (hk : k v) : callQ P gl m f args k := ⟨v, .inr (.inr h), hk⟩
theorem callF_ext {gl : Nat → Option (List AV)} {m : Mem} {n : Nat} {f : FuncId} {args : List AV} {v : AV} {k : AV → Wr → List Nat → Prop} (h : ExtD P f args v) (hk : k v [] []) : callF P gl m n f args k := ⟨v, [], [], .inr ⟨.inr h, rfl⟩, hk⟩
theorem ext_of {f : FuncId} {fn : Func} {ex : Array Value → Sem Value} {vals : List Value} {u : Value} (hf : P.funcs[f]? = some fn) (h1 : (fn.name == "runtime.NumGoroutine") = false) (h2 : fn.body.isNone = true) (h3 : Extern.findNext fn = none) (h4 : Extern.find fn = some ex) (h5 : ∀ w, (ex vals.toArray).run P w = .ok u w) (hu : isSc u = true) : ExtD P f (vals.map AV.sc) (.sc u) := ⟨vals, u, rfl, rfl, hu, fn, ex, hf, h1, h2, h3, h4, h5⟩
theorem run_floor {x r : Nat} (h : floorO x = some r) (w : World) : (Extern.MathFloor.toIntegral "math.archFloor" .down #[.float .f64 x]).run P w = .ok (.float .f64 r) w := by
  unfold floorO at h
  unfold Extern.MathFloor.toIntegral
  split at h
  · cases h
  · rename_i d hd
    cases h
    show ((match FloatKind.f64.decode x with
      | .nan s t => _
      | d => _ : Sem Value).run P w) = _
    cases hq : FloatKind.f64.decode x with
    | nan s t => exact absurd hq (hd s t)
    | number s m i => rfl
    | infinity s => rfl
end
end Go.Proofs.YteaimbiojpjneaaGreatDoor
