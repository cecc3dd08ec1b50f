/- Short forms of steps with floats, for printed texts. -/
import Derived.Test.YteaimbiojpjneaaGreatDoorPL
set_option linter.unusedVariables false
namespace Go.Proofs.YteaimbiojpjneaaGreatDoor
noncomputable abbrev fop (P : Program) (o : BinOp) (ty : TypeId) (a b : Nat) (n : Nat) (R : Nat → Prop) : Prop := opP (opA P (.binOp o ty (.tmp 0) (.tmp 1) ty) ty [fltA a, fltA b] (mget []) n) fun v => exF v R
noncomputable abbrev fcm (P : Program) (o : BinOp) (ty tb : TypeId) (a b : Nat) (n : Nat) (R : Bool → Prop) : Prop := opP (opA P (.binOp o ty (.tmp 0) (.tmp 1) ty) tb [fltA a, fltA b] (mget []) n) fun v => exB v R
noncomputable abbrev fng (P : Program) (ty : TypeId) (a n : Nat) (R : Nat → Prop) : Prop := opP (opA P (.unOp .neg ty (.tmp 0)) ty [fltA a] (mget []) n) fun v => exF v R
noncomputable abbrev fld (len sz : Nat) (g : AV) (i : Int) (R : Nat → Prop) : Prop := opP (idxA len sz g (intA i)) fun v => opP (ldS (mget []) v) fun w => exF w R
theorem retL_of {R : AV → Mem → Prop} {m : Mem} {os : List (Option AV)} {v : AV} (h : mkRes (seqL os) = some v) (hp : R v m) : retL R m os := by
  unfold retL; rw [h]; exact hp
section
variable {P : Program} {ty tb : TypeId} {a b n : Nat} {look : Nat → Option ABlk} {ρ : Type} {t : ρ} {f : Nat → Option ρ} {R : Nat → Prop} {B : Bool → Prop} {G : Prop}
theorem iq {r : Res} {k : AV → Prop} (v : AV) (h : r = some (v, [])) (h2 : G → k v) : G → opP r k := imp (opP_of h) h2
theorem fmul_s (h : ∀ x, f x = some t → R x) : (fMulO a b).bind f = some t → opP (opA P (.binOp .mul ty (.tmp 0) (.tmp 1) ty) ty [fltA a, fltA b] look n) (fun v => exF v R) := bind_b fun x hx => imp (opP_of (v := fltA x) (k := fun v => exF v R) (opA_fmul hx)) (h x)
theorem fadd_s (h : ∀ x, f x = some t → R x) : (fAddO a b).bind f = some t → opP (opA P (.binOp .add ty (.tmp 0) (.tmp 1) ty) ty [fltA a, fltA b] look n) (fun v => exF v R) := bind_b fun x hx => imp (opP_of (v := fltA x) (k := fun v => exF v R) (opA_fadd hx)) (h x)
theorem fsub_s (h : ∀ x, f x = some t → R x) : (fSubO a b).bind f = some t → opP (opA P (.binOp .sub ty (.tmp 0) (.tmp 1) ty) ty [fltA a, fltA b] look n) (fun v => exF v R) := bind_b fun x hx => imp (opP_of (v := fltA x) (k := fun v => exF v R) (opA_fsub hx)) (h x)
theorem fquo_s (h : ∀ x, f x = some t → R x) : (fQuoO a b).bind f = some t → opP (opA P (.binOp .quo ty (.tmp 0) (.tmp 1) ty) ty [fltA a, fltA b] look n) (fun v => exF v R) := bind_b fun x hx => imp (opP_of (v := fltA x) (k := fun v => exF v R) (opA_fquo hx)) (h x)
theorem fneg_s (h : G → R (fNeg a)) : G → opP (opA P (.unOp .neg ty (.tmp 0)) ty [fltA a] look n) (fun v => exF v R) := imp (opP_of (v := fltA (fNeg a)) (k := fun v => exF v R) (opA_fneg a)) h
theorem feql_s (h : G → B (fEq a b)) : G → opP (opA P (.binOp .eql ty (.tmp 0) (.tmp 1) ty) tb [fltA a, fltA b] look n) (fun v => exB v B) := imp (opP_of (v := boolA (fEq a b)) (k := fun v => exB v B) (opA_feql a b)) h
theorem fneq_s (h : G → B (fNe a b)) : G → opP (opA P (.binOp .neq ty (.tmp 0) (.tmp 1) ty) tb [fltA a, fltA b] look n) (fun v => exB v B) := imp (opP_of (v := boolA (fNe a b)) (k := fun v => exB v B) (opA_fneq a b)) h
theorem flss_s (h : G → B (fLt a b)) : G → opP (opA P (.binOp .lss ty (.tmp 0) (.tmp 1) ty) tb [fltA a, fltA b] look n) (fun v => exB v B) := imp (opP_of (v := boolA (fLt a b)) (k := fun v => exB v B) (opA_flss a b)) h
theorem fleq_s (h : G → B (fLe a b)) : G → opP (opA P (.binOp .leq ty (.tmp 0) (.tmp 1) ty) tb [fltA a, fltA b] look n) (fun v => exB v B) := imp (opP_of (v := boolA (fLe a b)) (k := fun v => exB v B) (opA_fleq a b)) h
theorem fgtr_s (h : G → B (fGt a b)) : G → opP (opA P (.binOp .gtr ty (.tmp 0) (.tmp 1) ty) tb [fltA a, fltA b] look n) (fun v => exB v B) := imp (opP_of (v := boolA (fGt a b)) (k := fun v => exB v B) (opA_fgtr a b)) h
theorem fgeq_s (h : G → B (fGe a b)) : G → opP (opA P (.binOp .geq ty (.tmp 0) (.tmp 1) ty) tb [fltA a, fltA b] look n) (fun v => exB v B) := imp (opP_of (v := boolA (fGe a b)) (k := fun v => exB v B) (opA_fgeq a b)) h
theorem fld_s {len sz : Nat} {g p : AV} {i : Int} (x : Nat) (h1 : idxA len sz g (intA i) = some (p, [])) (h2 : ldS look p = some (fltA x, [])) (h : G → R x) : G → opP (idxA len sz g (intA i)) (fun v => opP (ldS look v) fun w => exF w R) := imp (opP_of (v := p) (k := fun v => opP (ldS look v) fun w => exF w R) h1) (imp (opP_of (v := fltA x) (k := fun w => exF w R) h2) h)
end
end Go.Proofs.YteaimbiojpjneaaGreatDoor
