/- A part. -/
import Derived.Test.YtbfabclpcamlnaaGreatDoorPC
import Derived.IntWalk
set_option linter.unusedVariables false
set_option linter.unusedSimpArgs false
namespace Go.Proofs.YtbfabclpcamlnaaGreatDoor
open Go.RowKit
section
variable {P : Program} {K : H0}
theorem Tz (hm : P.follows .mixedOrders = true) : ∀ k, Ey P K.gl (Vi P K k)
  | 0, f, args, m, nx, v, m', nx', h => by simp [Vi] at h
  | k + 1, f, args, m, nx, v, m', nx', h => by
    have ih := Tz hm k
    unfold Vi at h
    split at h
    · rename_i fn hf
      split at h
      · rename_i code hb
        cases hq : (fn.name == "runtime.NumGoroutine" || Nat.blt fn.ntmps args.length) with
        | true => rw [hq] at h; simp at h
        | false =>
          rw [hq] at h
          simp only [cond_false] at h
          simp only [Bool.or_eq_false_iff] at hq
          have hlen : args.length ≤ fn.ntmps := by
            rcases Nat.lt_or_ge fn.ntmps args.length with h' | h'
            · have : Nat.blt fn.ntmps args.length = true := Nat.ble_eq_true_of_le h'
              rw [this] at hq; exact absurd hq.2 (by simp)
            · exact h'
          refine ⟨⟨fn, code, hf, hb, hq.1⟩, fun B c vals g gl hM ha hr => ?_⟩
          have key : ∀ x s, (x = A9.normal ∨ x = A9.ret) → D9 K (Gz P K (Vi P K k) fn.ntmps) k code ⟨El args 0, m, nx⟩ = some (x, s) → (Ek P fn s).map (·, s.m, s.nx) = some (v, m', nx') → Calls P f vals.toArray c.w (Fi B c v m' nx') := by
            intro x s hx hc hres
            obtain ⟨v0, h1, h2⟩ := Option.map_eq_some_iff.1 hres
            simp only [Prod.mk.injEq] at h2
            obtain ⟨rfl, rfl, rfl⟩ := h2
            have tri : Ca P K fn.ntmps nx code ⟨El args 0, m, nx⟩ (fun y t => (y = .normal ∨ y = .ret) ∧ ∃ v, Ek P fn t = some v ∧ (v = v0 ∧ t.m = s.m ∧ t.nx = s.nx)) :=
              (Fa hm ih code _ x s hc).mono fun y t ⟨e1, e2⟩ => by subst e1; subst e2; exact ⟨hx, v0, h1, rfl, rfl, rfl⟩
            refine (Je (R := fun v m' nx' => v = v0 ∧ m' = s.m ∧ nx' = s.nx) hf hb hlen tri g gl hM ha hr).mono ?_
            rintro e w' ⟨v, m', nx', ⟨rfl, rfl, rfl⟩, hp⟩
            exact hp
          split at h
          · rename_i s hc; exact key .normal s (.inl rfl) hc h
          · rename_i s hc; exact key .ret s (.inr rfl) hc h
          · cases h
      · cases h
    · cases h
def G9 (P : Program) (gl : Nat → Option (List AV)) (look : Nat → Option Bi) (f : FuncId) (args : List AV) (v : AV) : Prop :=
  D8 P f ∧ ∀ (B : Nat) (c : Cx) (vals : List Value), Good B c → B2 gl c → (∀ id b, look id = some b → c.M id = some b) → Bf c args vals → Calls P f vals.toArray c.w (Nt B c v)
def D2 (P : Program) (gl : Nat → Option (List AV)) (look : Nat → Option Bi) (n : Nat) (f : FuncId) (args : List AV) (v : AV) (d : Wr) : Prop :=
  D8 P f ∧ ∀ (B : Nat) (c : Cx) (vals : List Value), Good B c → B2 gl c → ¬ c.al n → (∀ id b, look id = some b → c.M id = some b) → Bf c args vals → Calls P f vals.toArray c.w (Dq B c n v d)
theorem G9.y5 {gl : Nat → Option (List AV)} {look : Nat → Option Bi} {n : Nat} {f : FuncId} {args : List AV} {v : AV} (h : G9 P gl look f args v) : D2 P gl look n f args v [] := ⟨h.1, fun B c vals g hgl hn hl hr => (h.2 B c vals g hgl hl hr).mono fun _ _ h => h.y5⟩
def C3 (P : Program) (gl : Nat → Option (List AV)) (f : FuncId) (args : List AV) (v : AV) : Prop := As args = true ∧ clean v = true ∧ G9 P gl (fun _ => none) f args v
theorem aI (hm : P.follows .mixedOrders = true) {k : Nat} {f : FuncId} {args : List AV} {v v' : AV} {m : List (Nat × Option Bi)} {nx : Nat} (hc : As args = true) (h : Vi P K k f args [] 0 = some (v, m, nx)) (hv : freeze (Al m) 6 v = some v') (hcl : clean v' = true) : C3 P K.gl f args v' := by
  have hpc : Ev (Vi P K k) (fun _ => none) f args = some (v', []) := by
    unfold Ev
    simp only [hc, cond_true, h, hv, hcl]
  refine ⟨hc, hcl, ⟨((Tz (K := K) hm k) f args [] 0 v m nx h).1, fun B c vals g gl _ hr => ?_⟩⟩
  exact (G0 (Tz (K := K) hm k) g gl (look := fun _ => none) (fun _ _ h => by cases h) hr hpc).2.2
def evalsTo (P : Program) (K : H0) (k : Nat) (f : FuncId) : Option Bool :=
  match Vi P K k f [] [] 0 with
  | some (.sc (.bool b), _, _) => some b
  | _ => none
end
end Go.Proofs.YtbfabclpcamlnaaGreatDoor
set_option linter.unusedVariables false
set_option linter.unusedSimpArgs false
namespace Go.Proofs.YtbfabclpcamlnaaGreatDoor
open Go.RowKit
abbrev Mem := List (Nat × Option Bi)
def yT : Op → Bool
  | .alloc _ => true
  | .box _ _ => true
  | .store .. => true
  | .buildSlice .. => true
  | .makeSlice .. => true
  | .call c => match c.callee with
    | .builtin .append => true
    | .builtin .copy => true
    | .builtin .clear => true
    | _ => false
  | _ => false
def qR : Op → Bool
  | .call { callee := .value (.func f), .. } => wcall f
  | _ => false
def Adl (o : Oper) : Bool := yT o.op || qR o.op
def Bg (r : Gx) (k : AV → Prop) : Prop := match r with
  | some (v, []) => k v
  | _ => False
def E8 (r : Gx) (k : AV → Wr → Prop) : Prop := match r with
  | some (v, d) => k v d
  | none => False
def spl (v : AV) (x y : Prop) : Prop := match v with
  | .sc (.bool b) => bif b then x else y
  | _ => False
def sR (ops : Array Oper) (i : Nat) : Bool := ops.toList.any fun o => match o.guard with
  | some (j, _) => Nat.beq j i
  | none => false
def Hz (g : Bool) (v : AV) (k : AV → Prop) : Prop := bif g then spl v (k (.sc (.bool true))) (k (.sc (.bool false))) else k v
def No (nt : Nat) (e : List (Nat × AV)) (dst : Option Nat) (v : AV) (k : List (Nat × AV) → Prop) : Prop := match M3 nt e dst v with
  | some e => k e
  | none => False
def Ed (P : Program) (gl : Nat → Option (List AV)) (m : Mem) (nx : Nat) (f : FuncId) (args : List AV) (k : AV → Mem → Prop) : Prop :=
  D8 P f ∧ ∀ (B : Nat) (c : Cx) (vals : List Value), Good B c → B2 gl c → (∀ id, c.M id = Al m id) → (∀ id, c.al id → id < nx) → Bf c args vals → Calls P f vals.toArray c.w (fun e w' => ∃ v m', k v m' ∧ Fi B c v m' (nx + 64) e w')
def Bv (P : Program) (gl : Nat → Option (List AV)) (m : Mem) (f : FuncId) (args : List AV) (k : AV → Prop) : Prop := ∃ v, (G9 P gl (Al m) f args v ∨ cP P (Al m) f args v) ∧ k v
def Yo (P : Program) (gl : Nat → Option (List AV)) (m : Mem) (n : Nat) (f : FuncId) (args : List AV) (k : AV → Wr → List Nat → Prop) : Prop := ∃ v d ft, (D2 P gl (B3 m ft) n f args v d ∨ (cP P (B3 m ft) f args v ∧ d = [])) ∧ k v d ft
def Hp (g : Option AV) (ar : Option (List AV)) (k : FuncId → List AV → Prop) : Prop := match g, ar with
  | some (.fn f caps), some ar => k f (ar ++ caps)
  | _, _ => False
inductive aH where
  | any
  | int (k : IntKind)
  | bool
  | str
  | flt
  | agg (l : List aH)
  | tup (l : List aH)
def mL : aH → List aH
  | .agg l => l
  | s => [s]
def shapeOf (P : Program) : Nat → TypeId → aH
  | 0, _ => .any
  | f + 1, t => match P.underlying t with
    | some (.int k) => .int k
    | some .bool => .bool
    | some .string => .str
    | some (.float .f64) => .flt
    | some (.struct fs) => .agg (fs.toList.flatMap fun fd => mL (shapeOf P f fd.type))
    | some (.array n e) => .agg ((List.replicate n (mL (shapeOf P f e))).flatten)
    | some (.tuple ts) => .tup (ts.toList.map (shapeOf P f))
    | _ => .any
def nR : aH → aH
  | .agg l => bif Nat.ble l.length 24 then .agg l else .any
  | s => s
def T9 (P : Program) (t : TypeId) : aH := match shapeOf P 8 t with
  | .tup l => .tup (l.map nR)
  | s => nR s
def xT (v : AV) (k : Int → Prop) : Prop := match v with
  | .sc (.int .i8 z) => k z
  | _ => False
def l8 (v : AV) (k : Int → Prop) : Prop := match v with
  | .sc (.int .i16 z) => k z
  | _ => False
def pM (v : AV) (k : Int → Prop) : Prop := match v with
  | .sc (.int .i32 z) => k z
  | _ => False
def Af (v : AV) (k : Int → Prop) : Prop := match v with
  | .sc (.int .i64 z) => k z
  | _ => False
def eY (v : AV) (k : Int → Prop) : Prop := match v with
  | .sc (.int .u8 z) => k z
  | _ => False
def pJ (v : AV) (k : Int → Prop) : Prop := match v with
  | .sc (.int .u16 z) => k z
  | _ => False
def kI (v : AV) (k : Int → Prop) : Prop := match v with
  | .sc (.int .u32 z) => k z
  | _ => False
def J8 (v : AV) (k : Int → Prop) : Prop := match v with
  | .sc (.int .u64 z) => k z
  | _ => False
def exK : IntKind → AV → (Int → Prop) → Prop
  | .i8, v, q => xT v q
  | .i16, v, q => l8 v q
  | .i32, v, q => pM v q
  | .i64, v, q => Af v q
  | .u8, v, q => eY v q
  | .u16, v, q => pJ v q
  | .u32, v, q => kI v q
  | .u64, v, q => J8 v q
def G2 (v : AV) (k : Bool → Prop) : Prop := match v with
  | .sc (.bool b) => k b
  | _ => False
def O8 (v : AV) (k : ByteArray → Prop) : Prop := match v with
  | .sc (.string s) => k s
  | _ => False
def exF (v : AV) (k : Nat → Prop) : Prop := match v with
  | .sc (.float .f64 x) => k x
  | _ => False
def exL : Nat → List AV → (List AV → Prop) → Prop
  | 0 => fun cs k => match cs with
    | [] => k []
    | _ :: _ => False
  | n + 1 => fun cs k => match cs with
    | [] => False
    | x :: xs => exL n xs fun l => k (x :: l)
def E0 (n : Nat) (v : AV) (k : List AV → Prop) : Prop := match v with
  | .agg cs => exL n cs k
  | _ => False
def Lw (n : Nat) (v : AV) (k : List AV → Prop) : Prop := match v with
  | .tup cs => exL n cs k
  | _ => False
def Ol (f : aH → AV → (AV → Prop) → Prop) : List aH → List AV → (List AV → Prop) → Prop
  | s :: ss, x :: xs, k => f s x fun y => Ol f ss xs fun ys => k (y :: ys)
  | [], [], k => k []
  | _, _, _ => False
def Kw : Nat → aH → AV → (AV → Prop) → Prop
  | 0, _, v, k => k v
  | _ + 1, .any, v, k => k v
  | _ + 1, .int ik, v, k => exK ik v fun z => k (.sc (.int ik z))
  | _ + 1, .bool, v, k => G2 v fun b => k (.sc (.bool b))
  | _ + 1, .str, v, k => O8 v fun s => k (.sc (.string s))
  | _ + 1, .flt, v, k => exF v fun x => k (.sc (.float .f64 x))
  | f + 1, .agg l, v, k => E0 l.length v fun cs => Ol (Kw f) l cs fun cs => k (.agg cs)
  | f + 1, .tup l, v, k => Lw l.length v fun cs => Ol (Kw f) l cs fun cs => k (.tup cs)
def Ge (P : Program) (o : Oper) : aH := match o.op with
  | .load t _ => T9 P t
  | .call _ => T9 P o.type
  | .convert _ d _ => T9 P d
  | .index .. => T9 P o.type
  | .field .. => T9 P o.type
  | .unOp _ t _ => T9 P t
  | .binOp op t _ _ _ => (match op with
    | .eql => .bool
    | .neq => .bool
    | .lss => .bool
    | .leq => .bool
    | .gtr => .bool
    | .geq => .bool
    | _ => T9 P t)
  | _ => .any
theorem gG {ik : IntKind} {v : AV} {k : AV → Prop} (h : exK ik v fun z => k (.sc (.int ik z))) : k v := by
  cases ik <;> (simp only [exK, xT, l8, pM, Af, eY, pJ, kI, J8] at h; split at h; (exact h); (exact h.elim))
theorem Ri : ∀ {n : Nat} {cs : List AV} {k : List AV → Prop}, exL n cs k → k cs
  | 0, [], k, h => h
  | n + 1, x :: xs, k, h => Ri (n := n) (cs := xs) (k := fun l => k (x :: l)) h
  | 0, _ :: _, k, h => by simp [exL] at h
  | _ + 1, [], k, h => by simp [exL] at h
theorem Kh {f : aH → AV → (AV → Prop) → Prop} (hf : ∀ s v k, f s v k → k v) : ∀ {ss : List aH} {cs : List AV} {k : List AV → Prop}, Ol f ss cs k → k cs
  | s :: ss, x :: xs, k, h => Kh hf (ss := ss) (cs := xs) (k := fun ys => k (x :: ys)) (hf s x _ h)
  | [], [], k, h => h
  | [], _ :: _, k, h => by simp [Ol] at h
  | _ :: _, [], k, h => by simp [Ol] at h
theorem Iu : ∀ (f : Nat) (s : aH) (v : AV) (k : AV → Prop), Kw f s v k → k v
  | 0, _, v, k, h => h
  | _ + 1, .any, v, k, h => h
  | _ + 1, .int ik, v, k, h => gG h
  | _ + 1, .bool, v, k, h => by
    simp only [Kw, G2] at h
    split at h
    · exact h
    · exact h.elim
  | _ + 1, .str, v, k, h => by
    simp only [Kw, O8] at h
    split at h
    · exact h
    · exact h.elim
  | _ + 1, .flt, v, k, h => by
    simp only [Kw, exF] at h
    split at h
    · exact h
    · exact h.elim
  | f + 1, .agg l, v, k, h => by
    simp only [Kw, E0] at h
    split at h
    · exact Kh (Iu f) (Ri h)
    · exact h.elim
  | f + 1, .tup l, v, k, h => by
    simp only [Kw, Lw] at h
    split at h
    · exact Kh (Iu f) (Ri h)
    · exact h.elim
def Ae (m : Mem) : Wr → Mem
  | [] => m
  | p :: r => Ae (p :: m) r
theorem Kv (d : Wr) : ∀ (m : Mem) (id : Nat), Al (Ae m d) id = P4 (Al m) d id := by
  induction d with
  | nil => intro m id; rfl
  | cons p r ih =>
    obtain ⟨i, v⟩ := p
    intro m id
    unfold Ae P4
    rw [ih]
    congr 1
    funext k
    show (bif Nat.beq i k then v else Al m k) = _
    cases h : Nat.beq i k with
    | true => simp [beq_true h]
    | false => have := beq_false h; simp only [cond_false]; rw [if_neg (fun e => this e.symm)]
def Mo (b : Bool) (p : Prop) : Prop := bif b then p else False
def Ur : List AV → Prop → Prop
  | [], p => p
  | x :: r, p => Mo (Dd x) (Ur r p)
def Km (P : Program) (t : TypeId) (x : AV) (k : List AV → Prop) : Prop := match P.underlying t with
  | some d => bif Gc d then (match x, C8 P t with
      | .agg cs, some n => Mo (Nat.beq cs.length n) (Ur cs (k cs))
      | _, _ => False) else (match C8 P t with
      | some 1 => Mo (Dd x) (k [x])
      | _ => False)
  | none => False
def C4 (P : Program) (look : Nat → Option Bi) (t : TypeId) (a x : AV) (k : AV → Wr → Prop) : Prop := match a with
  | .ptr id off => (match look id with
    | some b => Km P t x fun cs => Mo (Nat.ble (off + cs.length) b.cells.length) (k .D7 [(id, some ⟨D0 b.cells off cs, b.ty⟩)])
    | none => False)
  | _ => False
def Aa1 (P : Program) (t : TypeId) (n : Nat) (x : AV) (k : AV → Wr → Prop) : Prop := Km P t x fun cs => k (.ptr n 0) [(n, some ⟨cs, t⟩)]
section
variable (P : Program) (K : H0) (nt : Nat) (ops : Array Oper)
def T4 (x : AV) (k : Bool → Prop) : Prop := match x with
  | .Cc => k true
  | .Dm _ cs _ => (match cs with
    | [] => ∀ b, k b
    | _ :: _ => k false)
  | .sl .. => k false
  | _ => False
def N7 : Operand → Bool
  | .const (.slice none 0 0) => true
  | _ => false
def S3 (P : Program) (t : TypeId) : Bool := match P.underlying t with
  | some (.slice _) => true
  | _ => false
def opW (s : St) (o : Oper) (k : AV → Mem → Nat → Prop) : Prop :=
  match o.op with
  | .call { callee := .value g, args, .. } => Hp (He K.gl s.e g) (opts (He K.gl s.e) args.toList) fun f ar => bif K.pm f then Bv P K.gl s.m f ar (fun v => k v s.m (s.nx + 64)) else Ed P K.gl s.m s.nx f ar (fun v m => k v m (s.nx + 64))
  | .store t a x => (match He K.gl s.e a, He K.gl s.e x with
    | some a, some x => C4 P (Al s.m) t a x fun v d => k v (Ae s.m d) (s.nx + 1)
    | _, _ => False)
  | .box t x => (match He K.gl s.e x with
    | some x => Aa1 P t s.nx x fun v d => k v (Ae s.m d) (s.nx + 1)
    | none => False)
  | .binOp .eql t x y _ => bif S3 P t && N7 y then (match He K.gl s.e x with
      | some x => T4 x fun b => k (.sc (.bool b)) s.m (s.nx + 1)
      | none => False) else Bg (My P (He K.gl s.e) (Al s.m) s.nx o) fun v => k v s.m (s.nx + 1)
  | .binOp .neq t x y _ => bif S3 P t && N7 y then (match He K.gl s.e x with
      | some x => T4 x fun b => k (.sc (.bool (!b))) s.m (s.nx + 1)
      | none => False) else Bg (My P (He K.gl s.e) (Al s.m) s.nx o) fun v => k v s.m (s.nx + 1)
  | op => bif yT op then E8 (My P (He K.gl s.e) (Al s.m) s.nx o) fun v d => k v (Ae s.m d) (s.nx + 1) else Bg (My P (He K.gl s.e) (Al s.m) s.nx o) fun v => k v s.m (s.nx + 1)
def opQ (s : St) (o : Oper) (k : AV → Prop) : Prop :=
  match o.op with
  | .call { callee := .value g, args, .. } => Hp (He K.gl s.e g) (opts (He K.gl s.e) args.toList) fun f ar => Bv P K.gl s.m f ar k
  | _ => Bg (My P (He K.gl s.e) (Al s.m) s.nx o) k
def opF (s : St) (o : Oper) (k : AV → Wr → List Nat → Prop) : Prop :=
  match o.op with
  | .call { callee := .value g, args, .. } => Hp (He K.gl s.e g) (opts (He K.gl s.e) args.toList) fun f ar => Yo P K.gl s.m s.nx f ar k
  | .store t a x => (match He K.gl s.e a, He K.gl s.e x with
    | some a, some x => C4 P (B3 s.m (S6 (He K.gl s.e) o)) t a x fun v d => k v d (S6 (He K.gl s.e) o)
    | _, _ => False)
  | .box t x => (match He K.gl s.e x with
    | some x => Aa1 P t s.nx x fun v d => k v d (S6 (He K.gl s.e) o)
    | none => False)
  | _ => E8 (My P (He K.gl s.e) (B3 s.m (S6 (He K.gl s.e) o)) s.nx o) fun v d => k v d (S6 (He K.gl s.e) o)
def WS : List Oper → Nat → St → (St → Prop) → Prop
  | [], _, s, Q => Q s
  | o :: r, i, s, Q => match Gw ops s.e o with
    | some true => opW P K s o fun v m nx => Kw 4 (Ge P o) v fun v => Hz (sR ops i) v fun v => No nt s.e o.dst v fun e => WS r (i + 1) ⟨e, m, nx⟩ Q
    | some false => No nt s.e o.dst (.tup []) fun e => WS r (i + 1) ⟨e, s.m, s.nx⟩ Q
    | none => False
def WQ : List Oper → Nat → St → (St → Prop) → Prop
  | [], _, s, Q => Q s
  | o :: r, i, s, Q => match Gw ops s.e o with
    | some true => opQ P K s o fun v => Kw 4 (Ge P o) v fun v => Hz (sR ops i) v fun v => No nt s.e o.dst v fun e => WQ r (i + 1) ⟨e, s.m, s.nx + 1⟩ Q
    | some false => No nt s.e o.dst (.tup []) fun e => WQ r (i + 1) ⟨e, s.m, s.nx + 1⟩ Q
    | none => False
def WF (ms : List Nat) : List Oper → Nat → St → List Rec → (St → Prop) → Prop
  | [], _, s, rs, Q => Mo (D1 ms rs) (Q s)
  | o :: r, i, s, rs, Q => match Gw ops s.e o with
    | some true => opF P K s o fun v d ft => Kw 4 (Ge P o) v fun v => Hz (sR ops i) v fun v => No nt s.e o.dst v fun e => WF ms r (i + 1) ⟨e, Ae s.m d, s.nx + 1⟩ (rs ++ [⟨d, ft⟩]) Q
    | some false => No nt s.e o.dst (.tup []) fun e => WF ms r (i + 1) ⟨e, s.m, s.nx + 1⟩ (rs ++ [⟨[], []⟩]) Q
    | none => False
def WR (draw : Bool) (s : St) (Q : St → Prop) : Prop :=
  bif draw then Mo (T5 ops (Fg ops.toList [])) (bif ops.toList.any Adl then WF P K nt ops (Fg ops.toList []) ops.toList 0 s [] Q else WQ P K nt ops ops.toList 0 s Q)
  else WS P K nt ops ops.toList 0 s Q
end
def W (P : Program) (K : H0) (nt n0 : Nat) : Code → St → (A9 → St → Prop) → Prop
  | .skip, s, Q => Q .normal s
  | .region _ ops d, s, Q => WR P K nt ops d s (Q .normal)
  | .seq a b, s, Q => W P K nt n0 a s (Dv (fun s' => W P K nt n0 b s' Q) Q)
  | .cond c a b, s, Q => match He K.gl s.e c with
    | some v => spl v (W P K nt n0 a s Q) (W P K nt n0 b s Q)
    | none => False
  | .block id b, s, Q => W P K nt n0 b s (Q4 id Q)
  | .loop b, s, Q => Ca P K nt n0 (.loop b) s Q
  | .exit id, s, Q => Q (.exit id) s
  | .ret, s, Q => Q .ret s
  | .label _, s, Q => Q .normal s
  | _, _, _ => False
section
variable {P : Program} {K : H0} {nt n0 : Nat} {ops : Array Oper}
theorem Mz {r : Gx} {k : AV → Prop} (h : Bg r k) : ∃ v, r = some (v, []) ∧ k v := by
  unfold Bg at h
  split at h
  · exact ⟨_, rfl, h⟩
  · exact h.elim
theorem Yk {r : Gx} {k : AV → Wr → Prop} (h : E8 r k) : ∃ v d, r = some (v, d) ∧ k v d := by
  unfold E8 at h
  split at h
  · exact ⟨_, _, rfl, h⟩
  · exact h.elim
theorem Yn {v : AV} {x y : Prop} (h : spl v x y) : ∃ b, v = .sc (.bool b) ∧ (b = true → x) ∧ (b = false → y) := by
  unfold spl at h
  split at h
  · rename_i b
    refine ⟨b, rfl, ?_, ?_⟩
    · rintro rfl; exact h
    · rintro rfl; exact h
  · exact h.elim
theorem J1 {g : Bool} {v : AV} {k : AV → Prop} (h : Hz g v k) : k v := by
  unfold Hz at h
  cases g with
  | false => exact h
  | true =>
    obtain ⟨b, rfl, h1, h2⟩ := Yn h
    cases b with
    | true => exact h1 rfl
    | false => exact h2 rfl
theorem Hj {nt : Nat} {e : List (Nat × AV)} {dst : Option Nat} {v : AV} {k : List (Nat × AV) → Prop} (h : No nt e dst v k) : ∃ e', M3 nt e dst v = some e' ∧ k e' := by
  unfold No at h
  split at h
  · rename_i e' he; exact ⟨e', he, h⟩
  · exact h.elim
theorem Zg {b : Bool} {p : Prop} (h : Mo b p) : b = true ∧ p := by
  unfold Mo at h
  cases b with
  | true => exact ⟨rfl, h⟩
  | false => exact h.elim
theorem Ki {g : Option AV} {ar : Option (List AV)} {k : FuncId → List AV → Prop} (h : Hp g ar k) : ∃ f caps l, g = some (.fn f caps) ∧ ar = some l ∧ k f (l ++ caps) := by
  unfold Hp at h
  split at h
  · exact ⟨_, _, _, rfl, rfl, h⟩
  · exact h.elim
theorem Lc {b : Bool} {p : Prop} (h : Mo b p) : b = true ∧ p := by
  unfold Mo at h
  cases b with
  | true => exact ⟨rfl, h⟩
  | false => exact h.elim
theorem Pv : ∀ {cs : List AV} {p : Prop}, Ur cs p → cs.all Dd = true ∧ p
  | [], p, h => ⟨rfl, h⟩
  | x :: r, p, h => by
    obtain ⟨h1, h2⟩ := Lc h
    obtain ⟨h3, h4⟩ := Pv h2
    exact ⟨by simp [h1, h3], h4⟩
theorem Pg {t : TypeId} {x : AV} {k : List AV → Prop} (h : Km P t x k) : ∃ cs n, C9 x = some cs ∧ C8 P t = some n ∧ cs.length = n ∧ cs.all Dd = true ∧ k cs := by
  unfold Km at h
  split at h
  · rename_i d hd
    cases hg : Gc d with
    | true =>
      rw [hg] at h
      simp only [cond_true] at h
      split at h
      · rename_i cs n hn
        obtain ⟨h1, h2⟩ := Lc h
        obtain ⟨h3, h4⟩ := Pv h2
        exact ⟨cs, n, rfl, hn, Nat.eq_of_beq_eq_true h1, h3, h4⟩
      · exact h.elim
    | false =>
      rw [hg] at h
      simp only [cond_false] at h
      split at h
      · rename_i hn
        obtain ⟨h1, h2⟩ := Lc h
        refine ⟨[x], 1, ?_, hn, rfl, by simp [h1], h2⟩
        cases x <;> simp [Dd] at h1 <;> rfl
      · exact h.elim
  · exact h.elim
theorem Ps {look : Nat → Option Bi} {t : TypeId} {a x : AV} {k : AV → Wr → Prop} (h : C4 P look t a x k) : ∃ v d, Rb P look t a x = some (v, d) ∧ k v d := by
  unfold C4 at h
  split at h
  · rename_i id off
    split at h
    · rename_i b hb
      obtain ⟨cs, n, h1, h2, h3, h4, h5⟩ := Pg h
      obtain ⟨h6, h7⟩ := Lc h5
      refine ⟨_, _, ?_, h7⟩
      have h3' : Nat.beq cs.length n = true := by rw [h3]; exact Nat.beq_refl n
      unfold Rb
      simp only [h1, h2, hb, h3', h6, h4, Bool.true_or, Bool.and_self, cond_true]
    · exact h.elim
  · exact h.elim
theorem Sx {t : TypeId} {n : Nat} {x : AV} {k : AV → Wr → Prop} (h : Aa1 P t n x k) : ∃ cs, C9 x = some cs ∧ k (.ptr n 0) [(n, some ⟨cs, t⟩)] := by
  obtain ⟨cs, m, h1, h2, h3, h4, h5⟩ := Pg h
  exact ⟨cs, h1, h5⟩
theorem Sv {c : Cx} {x : AV} {k : Bool → Prop} (h : T4 x k) {v : Value} (r : Bb c x v) : ∃ a n cap, v = .slice a n cap ∧ k a.isNone := by
  unfold T4 at h
  split at h
  · cases r; exact ⟨none, 0, 0, rfl, h⟩
  · split at h
    · cases r with
      | D6 a cap ex he hm hn => exact ⟨a, 0, cap, rfl, h _⟩
      | Dm hb hr hc hn he hm => exact ⟨_, _, _, rfl, h _⟩
    · cases r with
      | Dm hb hr hc hn he hm => exact ⟨_, _, _, rfl, h⟩
  · cases r; exact ⟨_, _, _, rfl, h⟩
  · exact h.elim
theorem Ta {y : Operand} (h : N7 y = true) : y = .const (.slice none 0 0) := by
  unfold N7 at h
  split at h
  · rfl
  · cases h
theorem Y3 {t : TypeId} (h : S3 P t = true) : ∃ e, P.underlying t = some (.slice e) := by
  unfold S3 at h
  split at h
  · rename_i e he; exact ⟨e, he⟩
  · cases h
theorem n5 {R : St → Prop} {B : Nat} {c0 : Cx} (hn : ∀ id, c0.al id → id < n0) : ∀ (rest pre : List Oper) {s : St} {c : Cx} {a : Act}, ops.toList = pre ++ rest → WS P K nt ops rest pre.length s R → SR K.gl B nt c s a → Step c0 c →
    wpOps P ops (Sw K nt B c0 (fun x s => x = .normal ∧ R s)) (List.range' pre.length rest.length) a c.w
  | [], pre, s, c, a, hops, h, sr, st => ⟨.normal, s, c, rfl, ⟨rfl, h⟩, sr, rfl, st⟩
  | o :: r, pre, s, c, a, hops, h, sr, st => by
    have hget : ops[pre.length]? = some o := by rw [← Array.getElem?_toList, hops]; simp
    have hops' : ops.toList = (pre ++ [o]) ++ r := by rw [hops]; simp
    simp only [List.length_cons, List.range'_succ]
    unfold wpOps
    simp only [hget]
    unfold WS at h
    split at h
    · rename_i hw
      rw [I2 (fun t _ _ _ _ => sr.e t) hw]
      simp only [if_true]
      left
      have fin : ∀ (c1 : Cx) (v : AV) (v' : Value) (m' : Mem) (nx' : Nat), (Kw 4 (Ge P o) v fun v => Hz (sR ops pre.length) v fun v => No nt s.e o.dst v fun e => WS P K nt ops r (pre.length + 1) ⟨e, m', nx'⟩ R) → Bb c1 v v' → Step c c1 → Good B c1 → (∀ id, c1.M id = Al m' id) → (∀ id, c1.al id → id < nx') → wpOps P ops (Sw K nt B c0 (fun x s => x = .normal ∧ R s)) (List.range' (pre.length + 1) r.length) (a.put o.dst v') c1.w := by
        intro c1 v v' m' nx' hk k1 k2 k3 k4 k5
        obtain ⟨e', hput, hrest⟩ := Hj (J1 (Iu 4 _ _ _ hk))
        have sr1 : SR K.gl B nt c1 ⟨e', m', nx'⟩ (a.put o.dst v') := ⟨k3, Nk hput sr.sz (fun t => (sr.e t).step k2) k1, k4, k5, Kk.trans sr.sz, put_defers.trans sr.df, sr.gl.step k2⟩
        have := n5 hn r (pre ++ [o]) hops' (by simpa using hrest) sr1 (st.trans k2)
        simpa using this
      have plain : ∀ (v : AV) (d : Wr), My P (He K.gl s.e) (Al s.m) s.nx o = some (v, d) → (Kw 4 (Ge P o) v fun v => Hz (sR ops pre.length) v fun v => No nt s.e o.dst v fun e => WS P K nt ops r (pre.length + 1) ⟨e, Ae s.m d, s.nx + 1⟩ R) → o.wp P a c.w (wpOps P ops (Sw K nt B c0 (fun x s => x = .normal ∧ R s)) (List.range' (pre.length + 1) r.length)) (Sw K nt B c0 (fun x s => x = .normal ∧ R s)) := by
        intro v d ha hk
        refine Ef.My ha B c a _ _ sr.g sr.gl (fun h => Nat.lt_irrefl _ (sr.al _ h)) (fun id b h => by rw [sr.m]; exact h) (fun x _ y hy => Ga sr.gl (fun t _ => sr.e t) hy) ?_
        intro c1 v' k1 k2 k3 k4 k5 k6
        exact fin c1 v v' _ _ hk k1 k2 k3 (fun id => by rw [k4, Kv]; exact Ow d sr.m id) (fun id h => by
          rcases k5 id h with h | rfl
          · exact Nat.lt_succ_of_lt (sr.al id h)
          · exact Nat.lt_succ_self _)
      unfold opW at h
      split at h
      · rename_i gg args ats ho
        obtain ⟨f, caps, l, h1, h2, h3⟩ := Ki h
        have hcw : Ed P K.gl s.m s.nx f (l ++ caps) (fun v m => Kw 4 (Ge P o) v fun v => Hz (sR ops pre.length) v fun v => No nt s.e o.dst v fun e => WS P K nt ops r (pre.length + 1) ⟨e, m, s.nx + 64⟩ R) ∨ ∃ v, cP P (Al s.m) f (l ++ caps) v ∧ Kw 4 (Ge P o) v fun v => Hz (sR ops pre.length) v fun v => No nt s.e o.dst v fun e => WS P K nt ops r (pre.length + 1) ⟨e, s.m, s.nx + 64⟩ R := by
          cases hpm : K.pm f with
          | false => rw [hpm] at h3; exact .inl h3
          | true =>
            rw [hpm] at h3
            obtain ⟨v, hpo, hk⟩ := h3
            rcases hpo with ⟨hp, hc⟩ | hod
            · exact .inl ⟨hp, fun B c vals g hgl hM ha hr => (hc B c vals g hgl (fun id b hb => by rw [hM]; exact hb) hr).mono fun e w' ⟨v', c', h1, h2, h3, h4, h5, h6, h7⟩ =>
                ⟨v, s.m, hk, v', c', h1, h2, h3, h4, h5, fun id => by rw [h6, hM], fun id h => by have := ha id ((h7 id).1 h); omega⟩⟩
            · exact .inr ⟨v, hod, hk⟩
        rcases hcw with ⟨hp, hc⟩ | ⟨v, hod, hk⟩
        · have hg := Ga (c := c) (a := a) sr.gl (fun t _ => sr.e t) h1
          generalize hgv : a.eval gg = u at hg
          cases hg with
          | fn f hcaps =>
            have hargs := Iv (c := c) (ev := a.eval) (fun x _ y hy => Ga sr.gl (fun t _ => sr.e t) hy) h2
            refine Vk ho hgv hp (hc B c _ sr.g sr.gl sr.m sr.al (hargs.append hcaps)) ?_
            rintro e2 w' ⟨v, m', hk, v', c', rfl, rfl, k1, k2, k3, k4, k5⟩
            exact ⟨v', rfl, fin c' v v' m' _ hk k1 k2 k3 k4 k5⟩
        · refine Ef.over ho h1 h2 hod B c a _ _ sr.g sr.gl (fun h => Nat.lt_irrefl _ (sr.al _ h)) (fun id b h => by rw [sr.m]; exact h) (fun x _ y hy => Ga sr.gl (fun t _ => sr.e t) hy) ?_
          intro c1 v' k1 k2 k3 k4 k5 k6
          exact fin c1 v v' s.m (s.nx + 64) hk k1 k2 k3 (fun id => by rw [k4]; exact sr.m id) (fun id h => by
            rcases k5 id h with h | rfl
            · have := sr.al id h; omega
            · omega)
      · rename_i t x y ho
        split at h
        · rename_i a1 x1 h1 h2
          obtain ⟨v, d, hs, hk⟩ := Ps h
          exact plain v d (by simp only [My, ho, h1, h2, hs]) hk
        · exact h.elim
      · rename_i t x ho
        split at h
        · rename_i x1 h1
          obtain ⟨cs, hs, hk⟩ := Sx h
          exact plain _ _ (by simp only [My, ho, h1, Option.bind_some, hs]) hk
        · exact h.elim
      · rename_i t x y yt ho
        cases hq : (S3 P t && N7 y) with
        | false =>
          rw [hq] at h
          obtain ⟨v, ha, hk⟩ := Mz h
          exact plain v [] ha hk
        | true =>
          rw [hq] at h
          simp only [Bool.and_eq_true] at hq
          obtain ⟨e0, hu⟩ := Y3 hq.1
          have hy := Ta hq.2
          subst hy
          simp only [cond_true] at h
          split at h
          · rename_i x1 h1
            have hx := Ga (c := c) (a := a) sr.gl (fun t _ => sr.e t) h1
            obtain ⟨a1, n1, cap1, hv, hk⟩ := Sv h hx
            have hrun : (execOp a.eval o).run P c.w = .ok (.value (.bool a1.isNone)) c.w := by
              have e1 : a.eval (.const (.slice none 0 0)) = .slice none 0 0 := rfl
              have e2 := Ha (P := P) hu (a := a1) (b := none) (k := n1) (q := cap1) (k' := 0) (q' := 0) (.inr rfl) c.w
              simp only [Option.isNone_none, Bool.and_true] at e2
              simp [execOp, ho, hv, e1, eqGuard, binOp, e2]
            unfold Oper.wp
            rw [hrun]
            exact fin (c.tick s.nx) _ _ _ _ hk (.sc _ rfl) (Gt c _) (Lb sr.g _) sr.m (fun id h => by
              rcases h with h | rfl
              · exact Nat.lt_succ_of_lt (sr.al id h)
              · exact Nat.lt_succ_self _)
          · exact h.elim
      · rename_i t x y yt ho
        cases hq : (S3 P t && N7 y) with
        | false =>
          rw [hq] at h
          obtain ⟨v, ha, hk⟩ := Mz h
          exact plain v [] ha hk
        | true =>
          rw [hq] at h
          simp only [Bool.and_eq_true] at hq
          obtain ⟨e0, hu⟩ := Y3 hq.1
          have hy := Ta hq.2
          subst hy
          simp only [cond_true] at h
          split at h
          · rename_i x1 h1
            have hx := Ga (c := c) (a := a) sr.gl (fun t _ => sr.e t) h1
            obtain ⟨a1, n1, cap1, hv, hk⟩ := Sv h hx
            have hrun : (execOp a.eval o).run P c.w = .ok (.value (.bool (!a1.isNone))) c.w := by
              have e1 : a.eval (.const (.slice none 0 0)) = .slice none 0 0 := rfl
              have e2 := Ha (P := P) hu (a := a1) (b := none) (k := n1) (q := cap1) (k' := 0) (q' := 0) (.inr rfl) c.w
              simp only [Option.isNone_none, Bool.and_true] at e2
              simp [execOp, ho, hv, e1, eqGuard, binOp, e2]
            unfold Oper.wp
            rw [hrun]
            exact fin (c.tick s.nx) _ _ _ _ hk (.sc _ rfl) (Gt c _) (Lb sr.g _) sr.m (fun id h => by
              rcases h with h | rfl
              · exact Nat.lt_succ_of_lt (sr.al id h)
              · exact Nat.lt_succ_self _)
          · exact h.elim
      · cases hwr : yT o.op with
        | true =>
          rw [hwr] at h
          obtain ⟨v, d, ha, hk⟩ := Yk h
          exact plain v d ha hk
        | false =>
          rw [hwr] at h
          obtain ⟨v, ha, hk⟩ := Mz h
          exact plain v [] ha hk
    · rename_i hw
      rw [I2 (fun t _ _ _ _ => sr.e t) hw]
      simp only [Bool.false_eq_true, if_false]
      obtain ⟨e', hput, hrest⟩ := Hj h
      have sr1 : SR K.gl B nt c ⟨e', s.m, s.nx⟩ (a.put o.dst undef) := ⟨sr.g, Nk hput sr.sz sr.e (.tup .nil), sr.m, sr.al, Kk.trans sr.sz, put_defers.trans sr.df, sr.gl⟩
      have := n5 hn r (pre ++ [o]) hops' (by simpa using hrest) sr1 st
      simpa using this
    · exact h.elim
def Trace (P : Program) (K : H0) (nt : Nat) (ops : Array Oper) (l : List Oper) (s s' : St) (rs rs' : List Rec) : Prop :=
  ∃ (S : Nat → St) (v : Nat → AV) (rc : Nat → Rec) (l' : List Rec), S 0 = s ∧ S l.length = s' ∧ rs' = rs ++ l' ∧ l'.length = l.length ∧ (∀ i, i < l.length → l'[i]? = some (rc i)) ∧ ∀ i o, l[i]? = some o → qN P K nt ops o (S i) (S (i + 1)) (v i) (rc i)
theorem Trace.nil {s : St} {rs : List Rec} : Trace P K nt ops [] s s rs rs := ⟨fun _ => s, fun _ => .D7, fun _ => ⟨[], []⟩, [], rfl, rfl, by simp, rfl, fun i hi => by simp at hi, fun i o h => by simp at h⟩
theorem Trace.cons {o : Oper} {r : List Oper} {s s1 s' : St} {rs rs' : List Rec} {v0 : AV} {r0 : Rec} (hst : qN P K nt ops o s s1 v0 r0) (h : Trace P K nt ops r s1 s' (rs ++ [r0]) rs') : Trace P K nt ops (o :: r) s s' rs rs' := by
  obtain ⟨S, v, rc, l', h1, h2, h3, h4, h5, h6⟩ := h
  refine ⟨fun i => match i with | 0 => s | i + 1 => S i, fun i => match i with | 0 => v0 | i + 1 => v i, fun i => match i with | 0 => r0 | i + 1 => rc i, r0 :: l', rfl, by simpa using h2, by rw [h3]; simp, by simp [h4], fun i hi => ?_, fun i o' ho => ?_⟩
  · cases i with
    | zero => rfl
    | succ i => simpa using h5 i (by simpa using hi)
  · cases i with
    | zero =>
      simp only [List.getElem?_cons_zero, Option.some.injEq] at ho
      subst ho
      show qN P K nt ops o s (S 0) v0 r0
      rw [h1]; exact hst
    | succ i => exact h6 i o' (by simpa using ho)
theorem X7 {m : Mem} {id : Nat} {b : Bi} (h : Al m id = some b) : id ∈ m.map (·.1) := by
  induction m with
  | nil => simp [Al] at h
  | cons p r ih =>
    obtain ⟨j, v⟩ := p
    unfold Al at h
    cases hj : Nat.beq j id with
    | true => simp [beq_true hj]
    | false => rw [hj] at h; simp [ih h]
theorem nT (m : Mem) : B3 m (m.map (·.1)) = Al m := by
  funext id
  unfold B3
  cases h : (m.map (·.1)).contains id with
  | true => rfl
  | false =>
    simp only [cond_false]
    cases hm : Al m id with
    | none => rfl
    | some b => have := X7 hm; simp at h; simp at this; exact absurd this (by simpa using h)
theorem Qt {R : St → Prop} : ∀ (l : List Oper) (i : Nat) {s : St} (rs : List Rec), WQ P K nt ops l i s R → ∃ s' rs', R s' ∧ Trace P K nt ops l s s' rs rs' ∧ ∀ q ∈ rs', q ∈ rs ∨ q.d = []
  | [], i, s, rs, h => ⟨s, rs, h, .nil, fun q hq => .inl hq⟩
  | o :: r, i, s, rs, h => by
    unfold WQ at h
    split at h
    · rename_i hw
      have fin : ∀ v : AV, Ef P K.gl s.e (Al s.m) s.nx o v [] → (Kw 4 (Ge P o) v fun v => Hz (sR ops i) v fun v => No nt s.e o.dst v fun e => WQ P K nt ops r (i + 1) ⟨e, s.m, s.nx + 1⟩ R) → ∃ s' rs', R s' ∧ Trace P K nt ops (o :: r) s s' rs rs' ∧ ∀ q ∈ rs', q ∈ rs ∨ q.d = [] := by
        intro v ho hk
        obtain ⟨e', hput, hrest⟩ := Hj (J1 (Iu 4 _ _ _ hk))
        obtain ⟨s', rs', h1, h2, h3⟩ := Qt r (i + 1) (rs ++ [⟨[], s.m.map (·.1)⟩]) hrest
        refine ⟨s', rs', h1, .cons ⟨.inl ⟨hw, by rw [nT]; exact ho⟩, hput, fun _ => rfl, rfl⟩ h2, fun q hq => ?_⟩
        rcases h3 q hq with h | h
        · rcases List.mem_append.1 h with h | h
          · exact .inl h
          · simp at h; exact .inr (by rw [h])
        · exact .inr h
      unfold opQ at h
      split at h
      · rename_i gg args ats ho
        obtain ⟨f, caps, l, h1, h2, v, hpc, hk⟩ := Ki h
        rcases hpc with ⟨hp, hc⟩ | hpo
        · exact fin v (Ef.pure ho h1 h2 hp fun B c vals g hgl hn hl hr => (hc B c vals g hgl hl hr).mono fun _ _ h => h.y5) hk
        · exact fin v (Ef.over ho h1 h2 hpo) hk
      · obtain ⟨v, ha, hk⟩ := Mz h
        exact fin v (Ef.My ha) hk
    · rename_i hw
      obtain ⟨e', hput, hrest⟩ := Hj h
      obtain ⟨s', rs', h1, h2, h3⟩ := Qt r (i + 1) (rs ++ [⟨[], []⟩]) hrest
      refine ⟨s', rs', h1, .cons (s1 := ⟨e', s.m, s.nx + 1⟩) (r0 := ⟨[], []⟩) ⟨.inr ⟨hw, rfl, rfl⟩, hput, fun _ => rfl, rfl⟩ h2, fun q hq => ?_⟩
      rcases h3 q hq with h | h
      · rcases List.mem_append.1 h with h | h
        · exact .inl h
        · simp at h; exact .inr (by rw [h])
      · exact .inr h
    · exact h.elim
theorem Q8 {ms : List Nat} {R : St → Prop} : ∀ (l : List Oper) (i : Nat) {s : St} (rs : List Rec), WF P K nt ops ms l i s rs R → ∃ s' rs', R s' ∧ Trace P K nt ops l s s' rs rs' ∧ D1 ms rs' = true
  | [], i, s, rs, h => by
    obtain ⟨h1, h2⟩ := Zg h
    exact ⟨s, rs, h2, .nil, h1⟩
  | o :: r, i, s, rs, h => by
    unfold WF at h
    split at h
    · rename_i hw
      have fin : ∀ (v : AV) (d : Wr) (ft : List Nat), Ef P K.gl s.e (B3 s.m ft) s.nx o v d → (Kw 4 (Ge P o) v fun v => Hz (sR ops i) v fun v => No nt s.e o.dst v fun e => WF P K nt ops ms r (i + 1) ⟨e, Ae s.m d, s.nx + 1⟩ (rs ++ [⟨d, ft⟩]) R) → ∃ s' rs', R s' ∧ Trace P K nt ops (o :: r) s s' rs rs' ∧ D1 ms rs' = true := by
        intro v d ft ho hk
        obtain ⟨e', hput, hrest⟩ := Hj (J1 (Iu 4 _ _ _ hk))
        obtain ⟨s', rs', h1, h2, h3⟩ := Q8 r (i + 1) _ hrest
        exact ⟨s', rs', h1, .cons ⟨.inl ⟨hw, ho⟩, hput, Kv _ _, rfl⟩ h2, h3⟩
      unfold opF at h
      split at h
      · rename_i gg args ats ho
        obtain ⟨f, caps, l, h1, h2, v, d, ft, hpc, hk⟩ := Ki h
        rcases hpc with ⟨hp, hc⟩ | ⟨hpo, rfl⟩
        · exact fin v d ft (Ef.pure ho h1 h2 hp hc) hk
        · exact fin v [] ft (Ef.over ho h1 h2 hpo) hk
      · rename_i t x y ho
        split at h
        · rename_i a1 x1 h1 h2
          obtain ⟨v, d, hs, hk⟩ := Ps h
          exact fin v d _ (Ef.My (by simp only [My, ho, h1, h2, hs])) hk
        · exact h.elim
      · rename_i t x ho
        split at h
        · rename_i x1 h1
          obtain ⟨cs, hs, hk⟩ := Sx h
          exact fin _ _ _ (Ef.My (by simp only [My, ho, h1, Option.bind_some, hs])) hk
        · exact h.elim
      · obtain ⟨v, d, ha, hk⟩ := Yk h
        exact fin v d _ (Ef.My ha) hk
    · rename_i hw
      obtain ⟨e', hput, hrest⟩ := Hj h
      obtain ⟨s', rs', h1, h2, h3⟩ := Q8 r (i + 1) _ hrest
      exact ⟨s', rs', h1, .cons (s1 := ⟨e', s.m, s.nx + 1⟩) (r0 := ⟨[], []⟩) ⟨.inr ⟨hw, rfl, rfl⟩, hput, fun _ => rfl, rfl⟩ h2, h3⟩
    · exact h.elim
theorem V2 {ms : List Nat} {rs : List Rec} (h : ∀ q ∈ rs, q.d = []) : D1 ms rs = true := by
  unfold D1
  refine List.all_eq_true.2 fun p hp => ?_
  have : p.1 ∈ rs := by
    obtain ⟨q, i⟩ := p
    exact List.mem_of_getElem? (List.mem_zipIdx_iff_getElem?.1 hp)
  simp [h p.1 this]
theorem Ab8 (hm : P.follows .mixedOrders = true) {d : Bool} {id : Nat} {s : St} {R : St → Prop} (h : WR P K nt ops d s R) : Ca P K nt n0 (.region id ops d) s (fun x s => x = .normal ∧ R s) := by
  intro B c0 cx a sr st hn
  unfold WR at h
  cases d with
  | false =>
    simp only [cond_false] at h
    refine wp_region ?_
    have := n5 (R := R) hn ops.toList [] (by simp) h sr st
    simpa [List.range_eq_range'] using this
  | true =>
    simp only [cond_true] at h
    obtain ⟨h1, h2⟩ := Zg h
    have ⟨s', rs, hR, ⟨S, v, rc, l', a1, a2, a3, a4, a5, a6⟩, hconf⟩ : ∃ s' rs', R s' ∧ Trace P K nt ops ops.toList s s' [] rs' ∧ D1 (Fg ops.toList []) rs' = true := by
      cases hw : ops.toList.any Adl with
      | true =>
        rw [hw] at h2
        exact Q8 ops.toList 0 [] h2
      | false =>
        rw [hw] at h2
        obtain ⟨s', rs', b1, b2, b3⟩ := Qt ops.toList 0 [] h2
        exact ⟨s', rs', b1, b2, V2 fun q hq => (b3 q hq).elim (fun h => by simp at h) (fun h => h)⟩
    have D := eI h1 a1 a2 a3 a4 a5 a6 hconf
    exact Zh hm D sr fun c' a' sr' st' => ⟨.normal, s', c', rfl, ⟨rfl, hR⟩, sr', rfl, st.trans st'⟩
theorem mQ {x : A9} {s : St} {R : St → Prop} {Q : A9 → St → Prop} (h : x = .normal ∧ R s) (hR : ∀ s, R s → Q .normal s) : Q x s := by obtain ⟨rfl, h⟩ := h; exact hR s h
theorem W9 (hm : P.follows .mixedOrders = true) : ∀ (c : Code) (s : St) (Q : A9 → St → Prop), W P K nt n0 c s Q → Ca P K nt n0 c s Q
  | .skip, s, Q, h => .skip h
  | .region id ops d, s, Q, h => (Ab8 hm h).mono fun x s h => mQ h fun s h => h
  | .seq a b, s, Q, h => .seq ((W9 hm a s _ h).mono fun x s' h => by
      cases x with
      | normal => exact W9 hm b s' Q h
      | exit i => exact h
      | ret => exact h)
  | .cond c a b, s, Q, h => by
    unfold W at h
    split at h
    · rename_i v hv
      obtain ⟨b', rfl, h1, h2⟩ := Yn h
      exact .cond hv (fun e => W9 hm a s Q (h1 e)) (fun e => W9 hm b s Q (h2 e))
    · exact h.elim
  | .block id b, s, Q, h => .block (W9 hm b s _ h)
  | .loop b, s, Q, h => h
  | .exit i, s, Q, h => .exit h
  | .ret, s, Q, h => .ret h
  | .label l, s, Q, h => .label h
  | .rangeFunc .., s, Q, h => by simp [W] at h
  | .scope .., s, Q, h => by simp [W] at h
  | .goto .., s, Q, h => by simp [W] at h
  | .refuse .., s, Q, h => by simp [W] at h
end
end Go.Proofs.YtbfabclpcamlnaaGreatDoor
set_option linter.unusedVariables false
set_option linter.unusedSimpArgs false
namespace Go.Proofs.YtbfabclpcamlnaaGreatDoor
open Go.RowKit
def Gs : Code → Nat
  | .seq a b => Gs a + Gs b
  | .cond _ a b => Gs a + Gs b
  | .block _ b => Gs b
  | .loop _ => 1
  | _ => 0
def Dt : Code → Nat → Code
  | .seq a b, i => bif Nat.blt i (Gs a) then Dt a i else Dt b (i - Gs a)
  | .cond _ a b, i => bif Nat.blt i (Gs a) then Dt a i else Dt b (i - Gs a)
  | .block _ b, i => Dt b i
  | .loop b, _ => b
  | _, _ => .skip
def Du (P : Program) (K : H0) (nt n0 : Nat) : Code → Nat → (A9 → St → Prop) → A9 → St → Prop
  | .seq a b, i, Q => bif Nat.blt i (Gs a) then Du P K nt n0 a i (Dv (fun s' => W P K nt n0 b s' Q) Q) else Du P K nt n0 b (i - Gs a) Q
  | .cond _ a b, i, Q => bif Nat.blt i (Gs a) then Du P K nt n0 a i Q else Du P K nt n0 b (i - Gs a) Q
  | .block id b, i, Q => Du P K nt n0 b i (Q4 id Q)
  | .loop _, _, Q => Q
  | _, _, _ => fun _ _ => False
def Nh (vals : List AV) : Operand → Option AV
  | .tmp i => vals[i]?
  | .const v => F6 v
  | _ => none
def B9 (P : Program) (op : Op) (ty : TypeId) (vals : List AV) (look : Nat → Option Bi) (n : Nat) : Gx := My P (Nh vals) look n ⟨none, op, ty, "", #[], none⟩
def Fy (r : Gx) (m : Mem) (k : AV → Mem → Prop) : Prop := E8 r fun v d => k v (Ae m d)
section
variable (look : Nat → Option Bi)
def Fe : AV → Gx
  | .ptr id off => match look id with | some b => (b.cells[off]?).map (·, []) | none => none
  | .B8 cs off => (cs[off]?).map (·, [])
  | _ => none
def Wz (n : Nat) (cs : List AV) (off : Nat) : Option AV := bif Nat.ble (off + n) cs.length then some (.agg ((cs.drop off).take n)) else none
def Ju (n : Nat) : AV → Gx
  | .ptr id off => match look id with | some b => (Wz n b.cells off).map (·, []) | none => none
  | .B8 cs off => (Wz n cs off).map (·, [])
  | _ => none
def stO (sz : Nat) (a x : AV) : Gx :=
  match a, C9 x, some sz with
  | .ptr id off, some cs, some sz =>
    match look id with
    | some b => bif Nat.beq cs.length sz && Nat.ble (off + cs.length) b.cells.length && cs.all Dd then some (.D7, [(id, some ⟨D0 b.cells off cs, b.ty⟩)]) else none
    | none => none
  | _, _, _ => none
def E1 (o : Nat) : AV → Gx
  | .ptr id off => some (.ptr id (off + o), [])
  | .B8 cs off => some (.B8 cs (off + o), [])
  | _ => none
def Db (sz : Nat) (x i : AV) : Gx :=
  match i with
  | .sc (.int _ z) => match x with
    | .sl id off esz n cap ex => bif decide (0 ≤ z) && decide (z < (n : Int)) then some (.ptr id (off + z.toNat * sz), []) else none
    | .Dm n cs ex => bif decide (0 ≤ z) && decide (z < (n : Int)) then some (.B8 (elemAt sz cs z.toNat) 0, []) else none
    | _ => none
  | _ => none
def Nq (len sz : Nat) (x i : AV) : Gx :=
  match i with
  | .sc (.int _ z) => match x with
    | .ptr id off => bif decide (0 ≤ z) && decide (z < (len : Int)) then some (.ptr id (off + z.toNat * sz), []) else none
    | .B8 cs off => bif decide (0 ≤ z) && decide (z < (len : Int)) then some (.B8 cs (off + z.toNat * sz), []) else none
    | _ => none
  | _ => none
def fvS (o : Nat) : AV → Gx
  | .agg cs => (cs[o]?).map (·, [])
  | _ => none
def fvA (o n : Nat) : AV → Gx
  | .agg cs => (Wz n cs o).map (·, [])
  | _ => none
def alc (zs : List AV) (t n : Nat) : Gx := some (.ptr n 0, [(n, some ⟨zs, t⟩)])
def bx (t : Nat) (x : AV) (n : Nat) : Gx := match C9 x with
  | some cs => some (.ptr n 0, [(n, some ⟨cs, t⟩)])
  | none => none
def Wx (zs : List AV) (pl : List (Nat × Nat)) (parts : List (Nat × AV)) : Gx := (I0 (fun i => pl[i]?) zs parts).map (fun cs => (.agg cs, []))
def app (e sz by_ : Nat) (zs : List AV) (n : Nat) (s x : AV) : Gx :=
  match cellsOf look sz x with
  | some (m, xs) =>
    bif Nat.beq m 0 then
      match s with
      | .Cc | .Dm .. | .sl .. => some (s, [])
      | _ => none
    else
    match cellsOf look sz s with
    | some (k, old) =>
      bif (Nat.ble ((k + m) * by_) 140737488355328 || bN s (k + m)) && Nat.ble (k + m) 4611686018427387904 && Nat.beq zs.length sz && Nat.ble 1 sz && xs.all Dd && Nat.beq xs.length (m * sz) && Nat.beq old.length (k * sz) then
        match s with
        | .Cc => some (.sl n 0 sz (k + m) (k + m) false, [(n, some ⟨old ++ xs, e⟩)])
        | .Dm _ _ true => some (.sl n 0 sz (k + m) (k + m) false, [(n, some ⟨old ++ xs, e⟩)])
        | .sl id off esz _ cap ex =>
          bif Nat.ble (k + m) cap then
            match look id with
            | some b => bif Nat.ble (off + (k + m) * sz) b.cells.length then some (.sl id off sz (k + m) cap ex, [(id, some ⟨D0 b.cells (off + k * sz) xs, b.ty⟩)]) else none
            | none => none
          else bif ex then some (.sl n 0 sz (k + m) (k + m) false, [(n, some ⟨old ++ xs, e⟩)])
          else bif Nat.beq off 0 && (match look id with | some b => Nat.beq b.ty e | none => false) then some (.sl n 0 sz (k + m) (k + m) false, [(n, some ⟨old ++ xs, e⟩), (id, none)])
          else none
        | _ => none
      else none
    | none => none
  | none => none
def Dh : AV → Gx
  | .Cc => some (.sc (.int .i64 0), [])
  | .Dm n _ _ => some (.sc (.int .i64 n), [])
  | .sl _ _ _ n _ _ => some (.sc (.int .i64 n), [])
  | _ => none
def Ww (n e sz len : Nat) (zs : List AV) (parts : List (Nat × AV)) : Gx :=
  bif Nat.ble (len * sz) 16777216 && Nat.beq zs.length sz && Nat.ble 1 sz then
    match I0 (fun i => some (i * sz, sz)) (rep zs len) parts with
    | some cs => some (.sl n 0 sz len len true, [(n, some ⟨cs, e⟩)])
    | none => none
  else none
def mks (n e sz by_ : Nat) (zs : List AV) (l c : AV) : Gx :=
  match l, c with
  | .sc (.int .i64 x), .sc (.int .i64 y) =>
    bif decide (0 ≤ x) && decide (x ≤ y) && decide (y * (by_ : Int) ≤ 140737488355328) && decide (y ≤ 4611686018427387904) && Nat.beq zs.length sz && Nat.ble 1 sz then
      some (.sl n 0 sz x.toNat y.toNat true, [(n, some ⟨rep zs y.toNat, e⟩)])
    else none
  | _, _ => none
def Lt (sz : Nat) (x : AV) (lo hi mx : Option AV) : Gx :=
  match x with
  | .Cc => match Is 0 lo, Is 0 hi, Is 0 mx with
    | some 0, some 0, some 0 => bif mx.isSome && hi.isNone then none else some (.Cc, [])
    | _, _, _ => none
  | .Dm n cs ex => match Is 0 lo, Is n hi, Is n mx with
    | some l, some h, some m => bif Nat.ble l h && Nat.ble h m && Nat.ble m n && Nat.beq cs.length (n * sz) && !(mx.isSome && hi.isNone) then
        some (.Dm (h - l) ((cs.drop (l * sz)).take ((h - l) * sz)) (mx.isSome && Nat.beq h m), []) else none
    | _, _, _ => none
  | .sl id off esz n cap ex => match Is 0 lo, Is n hi, Is cap mx with
    | some l, some h, some m => bif Nat.ble l h && Nat.ble h m && Nat.ble m cap && Nat.beq esz sz && !(mx.isSome && hi.isNone) then
        bif Nat.beq l m then some (.Dm 0 [] (ex || mx.isSome), []) else some (.sl id (off + l * sz) sz (h - l) (m - l) (ex || mx.isSome), [])
      else none
    | _, _, _ => none
  | _ => none
def ext (i : Nat) : AV → Gx
  | .tup vs => (vs[i]?).map (·, [])
  | _ => none
end
def Ahu (v : AV) (k : AV → Prop) : Prop := E0 1 v fun l => match l with
  | [a0] => k a0
  | _ => False
def Uv (v : AV) (k : AV → AV → Prop) : Prop := E0 2 v fun l => match l with
  | [a0, a1] => k a0 a1
  | _ => False
def Ahq (v : AV) (k : AV → AV → AV → Prop) : Prop := E0 3 v fun l => match l with
  | [a0, a1, a2] => k a0 a1 a2
  | _ => False
def Jf (v : AV) (k : AV → AV → AV → AV → Prop) : Prop := E0 4 v fun l => match l with
  | [a0, a1, a2, a3] => k a0 a1 a2 a3
  | _ => False
def Ahs (v : AV) (k : AV → AV → AV → AV → AV → Prop) : Prop := E0 5 v fun l => match l with
  | [a0, a1, a2, a3, a4] => k a0 a1 a2 a3 a4
  | _ => False
def R7 (v : AV) (k : AV → AV → AV → AV → AV → AV → Prop) : Prop := E0 6 v fun l => match l with
  | [a0, a1, a2, a3, a4, a5] => k a0 a1 a2 a3 a4 a5
  | _ => False
def Ahp (v : AV) (k : AV → AV → AV → AV → AV → AV → AV → Prop) : Prop := E0 7 v fun l => match l with
  | [a0, a1, a2, a3, a4, a5, a6] => k a0 a1 a2 a3 a4 a5 a6
  | _ => False
def Agz (v : AV) (k : AV → AV → AV → AV → AV → AV → AV → AV → Prop) : Prop := E0 8 v fun l => match l with
  | [a0, a1, a2, a3, a4, a5, a6, a7] => k a0 a1 a2 a3 a4 a5 a6 a7
  | _ => False
def Ag4 (v : AV) (k : AV → AV → AV → AV → AV → AV → AV → AV → AV → Prop) : Prop := E0 9 v fun l => match l with
  | [a0, a1, a2, a3, a4, a5, a6, a7, a8] => k a0 a1 a2 a3 a4 a5 a6 a7 a8
  | _ => False
def Af3 (v : AV) (k : AV → AV → AV → AV → AV → AV → AV → AV → AV → AV → Prop) : Prop := E0 10 v fun l => match l with
  | [a0, a1, a2, a3, a4, a5, a6, a7, a8, a9] => k a0 a1 a2 a3 a4 a5 a6 a7 a8 a9
  | _ => False
def Af2 (v : AV) (k : AV → AV → AV → AV → AV → AV → AV → AV → AV → AV → AV → Prop) : Prop := E0 11 v fun l => match l with
  | [a0, a1, a2, a3, a4, a5, a6, a7, a8, a9, a10] => k a0 a1 a2 a3 a4 a5 a6 a7 a8 a9 a10
  | _ => False
def Agm (v : AV) (k : AV → AV → AV → AV → AV → AV → AV → AV → AV → AV → AV → AV → Prop) : Prop := E0 12 v fun l => match l with
  | [a0, a1, a2, a3, a4, a5, a6, a7, a8, a9, a10, a11] => k a0 a1 a2 a3 a4 a5 a6 a7 a8 a9 a10 a11
  | _ => False
def Agh (v : AV) (k : AV → AV → AV → AV → AV → AV → AV → AV → AV → AV → AV → AV → AV → Prop) : Prop := E0 13 v fun l => match l with
  | [a0, a1, a2, a3, a4, a5, a6, a7, a8, a9, a10, a11, a12] => k a0 a1 a2 a3 a4 a5 a6 a7 a8 a9 a10 a11 a12
  | _ => False
def Agc (v : AV) (k : AV → AV → AV → AV → AV → AV → AV → AV → AV → AV → AV → AV → AV → AV → Prop) : Prop := E0 14 v fun l => match l with
  | [a0, a1, a2, a3, a4, a5, a6, a7, a8, a9, a10, a11, a12, a13] => k a0 a1 a2 a3 a4 a5 a6 a7 a8 a9 a10 a11 a12 a13
  | _ => False
def Agl (v : AV) (k : AV → AV → AV → AV → AV → AV → AV → AV → AV → AV → AV → AV → AV → AV → AV → Prop) : Prop := E0 15 v fun l => match l with
  | [a0, a1, a2, a3, a4, a5, a6, a7, a8, a9, a10, a11, a12, a13, a14] => k a0 a1 a2 a3 a4 a5 a6 a7 a8 a9 a10 a11 a12 a13 a14
  | _ => False
def X9 (v : AV) (k : AV → AV → AV → AV → AV → AV → AV → AV → AV → AV → AV → AV → AV → AV → AV → AV → Prop) : Prop := E0 16 v fun l => match l with
  | [a0, a1, a2, a3, a4, a5, a6, a7, a8, a9, a10, a11, a12, a13, a14, a15] => k a0 a1 a2 a3 a4 a5 a6 a7 a8 a9 a10 a11 a12 a13 a14 a15
  | _ => False
def Af5 (v : AV) (k : AV → AV → AV → AV → AV → AV → AV → AV → AV → AV → AV → AV → AV → AV → AV → AV → AV → Prop) : Prop := E0 17 v fun l => match l with
  | [a0, a1, a2, a3, a4, a5, a6, a7, a8, a9, a10, a11, a12, a13, a14, a15, a16] => k a0 a1 a2 a3 a4 a5 a6 a7 a8 a9 a10 a11 a12 a13 a14 a15 a16
  | _ => False
def Agk (v : AV) (k : AV → AV → AV → AV → AV → AV → AV → AV → AV → AV → AV → AV → AV → AV → AV → AV → AV → AV → Prop) : Prop := E0 18 v fun l => match l with
  | [a0, a1, a2, a3, a4, a5, a6, a7, a8, a9, a10, a11, a12, a13, a14, a15, a16, a17] => k a0 a1 a2 a3 a4 a5 a6 a7 a8 a9 a10 a11 a12 a13 a14 a15 a16 a17
  | _ => False
def Agb (v : AV) (k : AV → AV → AV → AV → AV → AV → AV → AV → AV → AV → AV → AV → AV → AV → AV → AV → AV → AV → AV → Prop) : Prop := E0 19 v fun l => match l with
  | [a0, a1, a2, a3, a4, a5, a6, a7, a8, a9, a10, a11, a12, a13, a14, a15, a16, a17, a18] => k a0 a1 a2 a3 a4 a5 a6 a7 a8 a9 a10 a11 a12 a13 a14 a15 a16 a17 a18
  | _ => False
def Af7 (v : AV) (k : AV → AV → AV → AV → AV → AV → AV → AV → AV → AV → AV → AV → AV → AV → AV → AV → AV → AV → AV → AV → Prop) : Prop := E0 20 v fun l => match l with
  | [a0, a1, a2, a3, a4, a5, a6, a7, a8, a9, a10, a11, a12, a13, a14, a15, a16, a17, a18, a19] => k a0 a1 a2 a3 a4 a5 a6 a7 a8 a9 a10 a11 a12 a13 a14 a15 a16 a17 a18 a19
  | _ => False
def Af6 (v : AV) (k : AV → AV → AV → AV → AV → AV → AV → AV → AV → AV → AV → AV → AV → AV → AV → AV → AV → AV → AV → AV → AV → Prop) : Prop := E0 21 v fun l => match l with
  | [a0, a1, a2, a3, a4, a5, a6, a7, a8, a9, a10, a11, a12, a13, a14, a15, a16, a17, a18, a19, a20] => k a0 a1 a2 a3 a4 a5 a6 a7 a8 a9 a10 a11 a12 a13 a14 a15 a16 a17 a18 a19 a20
  | _ => False
def Agg (v : AV) (k : AV → AV → AV → AV → AV → AV → AV → AV → AV → AV → AV → AV → AV → AV → AV → AV → AV → AV → AV → AV → AV → AV → Prop) : Prop := E0 22 v fun l => match l with
  | [a0, a1, a2, a3, a4, a5, a6, a7, a8, a9, a10, a11, a12, a13, a14, a15, a16, a17, a18, a19, a20, a21] => k a0 a1 a2 a3 a4 a5 a6 a7 a8 a9 a10 a11 a12 a13 a14 a15 a16 a17 a18 a19 a20 a21
  | _ => False
def Age (v : AV) (k : AV → AV → AV → AV → AV → AV → AV → AV → AV → AV → AV → AV → AV → AV → AV → AV → AV → AV → AV → AV → AV → AV → AV → Prop) : Prop := E0 23 v fun l => match l with
  | [a0, a1, a2, a3, a4, a5, a6, a7, a8, a9, a10, a11, a12, a13, a14, a15, a16, a17, a18, a19, a20, a21, a22] => k a0 a1 a2 a3 a4 a5 a6 a7 a8 a9 a10 a11 a12 a13 a14 a15 a16 a17 a18 a19 a20 a21 a22
  | _ => False
def Agd (v : AV) (k : AV → AV → AV → AV → AV → AV → AV → AV → AV → AV → AV → AV → AV → AV → AV → AV → AV → AV → AV → AV → AV → AV → AV → AV → Prop) : Prop := E0 24 v fun l => match l with
  | [a0, a1, a2, a3, a4, a5, a6, a7, a8, a9, a10, a11, a12, a13, a14, a15, a16, a17, a18, a19, a20, a21, a22, a23] => k a0 a1 a2 a3 a4 a5 a6 a7 a8 a9 a10 a11 a12 a13 a14 a15 a16 a17 a18 a19 a20 a21 a22 a23
  | _ => False
def Ry (v : AV) (k : Prop) : Prop := Lw 0 v fun l => match l with
  | [] => k
  | _ => False
def Iw (v : AV) (k : AV → AV → Prop) : Prop := Lw 2 v fun l => match l with
  | [a0, a1] => k a0 a1
  | _ => False
def mN (v : AV) (k : AV → AV → AV → Prop) : Prop := Lw 3 v fun l => match l with
  | [a0, a1, a2] => k a0 a1 a2
  | _ => False
def Ahr (v : AV) (k : AV → AV → AV → AV → Prop) : Prop := Lw 4 v fun l => match l with
  | [a0, a1, a2, a3] => k a0 a1 a2 a3
  | _ => False
def Ahn (v : AV) (k : AV → AV → AV → AV → AV → Prop) : Prop := Lw 5 v fun l => match l with
  | [a0, a1, a2, a3, a4] => k a0 a1 a2 a3 a4
  | _ => False
def Agq (v : AV) (k : AV → AV → AV → AV → AV → AV → Prop) : Prop := Lw 6 v fun l => match l with
  | [a0, a1, a2, a3, a4, a5] => k a0 a1 a2 a3 a4 a5
  | _ => False
def Ahj (v : AV) (k : AV → AV → AV → AV → AV → AV → AV → Prop) : Prop := Lw 7 v fun l => match l with
  | [a0, a1, a2, a3, a4, a5, a6] => k a0 a1 a2 a3 a4 a5 a6
  | _ => False
def Aht (v : AV) (k : AV → AV → AV → AV → AV → AV → AV → AV → Prop) : Prop := Lw 8 v fun l => match l with
  | [a0, a1, a2, a3, a4, a5, a6, a7] => k a0 a1 a2 a3 a4 a5 a6 a7
  | _ => False
@[simp] theorem Iy (p : Prop) : Mo true p = p := rfl
def zB : List (Option AV) → Option (List AV)
  | [] => some []
  | r :: rs => match r, zB rs with
    | some v, some l => some (v :: l)
    | _, _ => none
def xM : Option (List AV) → Option AV
  | some [v] => some v
  | some l => some (.tup l)
  | none => none
def A4 (R : AV → Mem → Prop) (m : Mem) (os : List (Option AV)) : Prop := match xM (zB os) with
  | some v => R v m
  | none => False
def Dj (P : Program) (fn : Func) (R : AV → Mem → Prop) : A9 → St → Prop
  | .normal, s => (match Ek P fn s with | some v => R v s.m | none => False)
  | .ret, s => (match Ek P fn s with | some v => R v s.m | none => False)
  | _, _ => False
end Go.Proofs.YtbfabclpcamlnaaGreatDoor
set_option linter.unusedVariables false
set_option linter.unusedSimpArgs false
namespace Go.Proofs.YtbfabclpcamlnaaGreatDoor
open Go.RowKit
mutual
def norm : AV → AV
  | .Cc => .Dm 0 [] false
  | .Dm n cs _ => .Dm n (F4 cs) false
  | .agg cs => .agg (F4 cs)
  | .tup cs => .tup (F4 cs)
  | .B8 cs off => .B8 (F4 cs) off
  | .fn f cs => .fn f (F4 cs)
  | x => x
def F4 : List AV → List AV
  | [] => []
  | x :: xs => norm x :: F4 xs
end
mutual
theorem Rv {c : Cx} {x : AV} {v : Value} : Bb c x v → Bb c (norm x) v
  | .D7 v => .D7 v
  | .sc v h => .sc v h
  | .agg h => .agg (Fb h)
  | .tup h => .tup (Fb h)
  | .H3 => .H3
  | .ptr h off => .ptr h off
  | .B8 hb h hc off => .B8 hb (Fb h) hc off
  | .Cc => .D6 none 0 false (fun h => by cases h) (Nat.zero_le _) (fun _ => rfl)
  | .D6 a cap ex he hm hn => .D6 a cap false (fun h => by cases h) hm hn
  | .Dm hb h hc hn he hm => .Dm hb (Fb h) hc hn (fun h => by cases h) hm
  | .sl h hb hs hn hc he hm => .sl h hb hs hn hc he hm
  | .fn f h => .fn f (Fb h)
  | .Me => .Me
  | .Mx u v => .Mx u v
theorem Fb {c : Cx} {xs : List AV} {vs : List Value} : Bf c xs vs → Bf c (F4 xs) vs
  | .nil => .nil
  | .cons h t => .cons (Rv h) (Fb t)
end
section
variable {P : Program} {K : H0} {gl : Nat → Option (List AV)}
def Own (P : Program) (gl : Nat → Option (List AV)) (f : FuncId) (args : List AV) (R : AV → Mem → Prop) : Prop :=
  D8 P f ∧ ∀ (B : Nat) (c : Cx) (vals : List Value), Good B c → B2 gl c → (∀ id, c.M id = none) → (∀ id, ¬ c.al id) → Bf c args vals → Calls P f vals.toArray c.w (fun e w' => ∃ u m nx, R u m ∧ Fi B c u m nx e w')
theorem j6 (hm : P.follows .mixedOrders = true) {f : FuncId} {fn : Func} {code : Code} (hf : P.funcs[f]? = some fn) (hb : fn.body = some code) (hn : (fn.name == "runtime.NumGoroutine") = false) {args : List AV} (hl : Nat.ble args.length fn.ntmps = true) {R : AV → Mem → Prop}
    (h : W P K fn.ntmps 0 code ⟨El args 0, [], 0⟩ (Dj P fn R)) : Own P K.gl f args R := by
  refine ⟨⟨fn, code, hf, hb, hn⟩, fun B c vals g hgl hM ha hr => ?_⟩
  have tri : Ca P K fn.ntmps 0 code ⟨El args 0, [], 0⟩ (fun x s => (x = .normal ∨ x = .ret) ∧ ∃ v, Ek P fn s = some v ∧ R v s.m) := (W9 hm code _ _ h).mono fun x s hq => by
    cases x with
    | normal =>
      simp only [Dj] at hq
      split at hq
      · rename_i v hv; exact ⟨.inl rfl, v, hv, hq⟩
      · exact hq.elim
    | ret =>
      simp only [Dj] at hq
      split at hq
      · rename_i v hv; exact ⟨.inr rfl, v, hv, hq⟩
      · exact hq.elim
    | exit i => exact hq.elim
  exact (Je (R := fun v m' _ => R v m') hf hb (Nat.le_of_ble_eq_true hl) tri g hgl (fun id => by rw [hM]; rfl) (fun id h => absurd h (ha id)) hr).mono fun e w' ⟨v, m', nx', h1, h2⟩ => ⟨v, m', nx', h1, h2⟩
theorem Bj (hm : P.follows .mixedOrders = true) {f : FuncId} {fn : Func} {code : Code} (hf : P.funcs[f]? = some fn) (hb : fn.body = some code) (hn : (fn.name == "runtime.NumGoroutine") = false) {args : List AV} (hl : Nat.ble args.length fn.ntmps = true) {R : AV → Mem → Prop} {X : Prop}
    (hX : W P K fn.ntmps 0 code ⟨El args 0, [], 0⟩ (Dj P fn R) = X) (h : X) : Own P K.gl f args R := j6 hm hf hb hn hl (hX.mpr h)
theorem Own.mono {f : FuncId} {args : List AV} {R R' : AV → Mem → Prop} (h : Own P gl f args R) (hr : ∀ v m, R v m → R' v m) : Own P gl f args R' :=
  ⟨h.1, fun B c vals g hgl hM ha hr' => (h.2 B c vals g hgl hM ha hr').mono fun e w' ⟨u, m, nx, h1, h2⟩ => ⟨u, m, nx, hr u m h1, h2⟩⟩
def Cu (v : AV) (u : AV) (m : Mem) : Prop := (freeze (Al m) 6 u).map norm = some v
theorem G9.any {f : FuncId} {args : List AV} {v : AV} (h : G9 P gl (fun _ => none) f args v) (look : Nat → Option Bi) : G9 P gl look f args v :=
  ⟨h.1, fun B c vals g hgl _ hr => h.2 B c vals g hgl (fun _ _ h => by cases h) hr⟩
theorem A5 {f : FuncId} {args : List AV} {v : AV} (hc : As args = true) (hv : clean v = true) (h : Own P gl f args (Cu v)) : C3 P gl f args v := by
  refine ⟨hc, hv, h.1, fun B c vals g hgl _ hr => ?_⟩
  have hBs := g.hB
  have hno : ∀ b, (c.own b ∨ c.no b) → b < c.w.heap.size := by
    rintro b (⟨id, Bh, h1, h2⟩ | h)
    · rw [← h2]; exact g.lt h1
    · have := g.Iq b h; omega
  have hst : ∀ b, c.Bl b → (c.alone fun b => c.own b ∨ c.no b).Bl b := fun b ⟨h1, h2, h3⟩ => ⟨h1, Cy, fun h => h.elim h2 h3⟩
  refine (h.2 c.w.heap.size (c.alone fun b => c.own b ∨ c.no b) vals (Eg hno) (B2.Br (c := c) rfl hst hgl) (fun _ => rfl) (fun _ h => h) (Bf.Br (c := c) (c0 := c.alone fun b => c.own b ∨ c.no b) rfl hst hr hc)).mono ?_
  rintro e w' ⟨u, m, nx, hans, u', c0, rfl, rfl, k1, k2, k3, k4, k5⟩
  obtain ⟨v', hv', rfl⟩ := Option.map_eq_some_iff.1 hans
  refine ⟨u', { c with w := c0.w }, rfl, rfl, Rv ?_, Gr g k2, Hm g k2, fun _ => rfl, fun _ => Iff.rfl⟩
  refine Mn (c' := { c with w := c0.w }) k3 rfl ?_ ?_ (fun id b h => by rw [k4]; exact h) 6 k1 hv'
  · rintro b ⟨h1, h2, h3⟩
    refine ⟨h1, fun ho => h3 ((k2.no b).2 (.inl ho)), fun hn => h3 ((k2.no b).2 (.inr hn))⟩
  · rintro b ⟨id, Bh, h1, h2⟩
    have hlow := (k3.low id Bh h1).1
    refine ⟨by rw [← h2]; exact k3.lt h1, ?_, fun hn => ?_⟩
    · rintro ⟨id', blk', h1', h2'⟩
      have := g.lt h1'
      have e2 : c.f id' = b := h2'
      omega
    · have : b < B := g.Iq b hn
      omega
theorem C3.at {f : FuncId} {args : List AV} {v : AV} (h : C3 P gl f args v) (look : Nat → Option Bi) : G9 P gl look f args v := h.2.2.any look
theorem Zp {m : Mem} {nx : Nat} {f : FuncId} {args : List AV} {v : AV} {k : AV → Mem → Prop} (h : G9 P gl (Al m) f args v) (hk : k v m) : Ed P gl m nx f args k :=
  ⟨h.1, fun B c vals g hgl hM ha hr => (h.2 B c vals g hgl (fun id b hb => by rw [hM]; exact hb) hr).mono fun e w' ⟨v', c', h1, h2, h3, h4, h5, h6, h7⟩ =>
    ⟨v, m, hk, v', c', h1, h2, h3, h4, h5, fun id => by rw [h6, hM], fun id h => by have := ha id ((h7 id).1 h); omega⟩⟩
theorem Mi {m : Mem} {nx : Nat} {f : FuncId} {args : List AV} {v : AV} {k : AV → Mem → Prop} (h : C3 P gl f args v) (hk : k v m) : Ed P gl m nx f args k := Zp (h.at _) hk
theorem A1 {m : Mem} {f : FuncId} {args : List AV} {v : AV} {k : AV → Prop} (h : C3 P gl f args v) (hk : k v) : Bv P gl m f args k := ⟨v, .inl (h.at _), hk⟩
theorem Er {m : Mem} {f : FuncId} {args : List AV} {v : AV} {k : AV → Prop} (h : G9 P gl (Al m) f args v) (hk : k v) : Bv P gl m f args k := ⟨v, .inl h, hk⟩
theorem Z8 {m : Mem} {n : Nat} {f : FuncId} {args : List AV} {v : AV} {k : AV → Wr → List Nat → Prop} (h : C3 P gl f args v) (hk : k v [] []) : Yo P gl m n f args k := ⟨v, [], [], .inl (h.at _).y5, hk⟩
def Aes (off esz k cap : Nat) (ex : Bool) (b : Bi) (u : AV) (m : Mem) : Prop := ∃ id, u = .sl id off esz k cap ex ∧ Al m id = some b
theorem Gf {m : Mem} {nx : Nat} {f : FuncId} {args : List AV} {v : AV} {d : Wr} {k : AV → Mem → Prop} (h : D2 P gl (Al m) nx f args v d) (hk : k v (Ae m d)) : Ed P gl m nx f args k :=
  ⟨h.1, fun B c vals g hgl hM ha hr => (h.2 B c vals g hgl (fun h => Nat.lt_irrefl _ (ha _ h)) (fun id b hb => by rw [hM]; exact hb) hr).mono fun e w' ⟨v', c', h1, h2, h3, h4, h5, h6, h7, h8⟩ =>
    ⟨v, Ae m d, hk, v', c', h1, h2, h3, h4, h5, fun id => by rw [h6, Kv]; exact Ow d hM id, fun id h => by
      rcases h7 id h with h | rfl
      · have := ha id h; omega
      · omega⟩⟩
def Bo (K : H0) (nt n0 : Nat) (s s0 : St) : Prop := ∀ (B : Nat) (c0 cx : Cx) (a : Act), SR K.gl B nt cx s a → Step c0 cx → (∀ id, c0.al id → id < n0) → ∃ cx', SR K.gl B nt cx' s0 a ∧ Step c0 cx' ∧ cx'.w = cx.w
variable {nt n0 : Nat}
theorem Ca.Fk {s s0 : St} {c : Code} {Q : A9 → St → Prop} (hw : Bo K nt n0 s s0) (h : Ca P K nt n0 c s0 Q) : Ca P K nt n0 c s Q := fun B c0 cx a sr st hn => by
  obtain ⟨cx', sr', st', e⟩ := hw B c0 cx a sr st hn
  rw [← e]; exact h B c0 cx' a sr' st' hn
theorem Q3.Fk {s s0 : St} {c : Code} {n : Nat} {Q : A9 → St → Prop} (hw : Bo K nt n0 s s0) (h : Q3 P K nt n0 c n s0 Q) : Q3 P K nt n0 c n s Q := fun B c0 cx a sr st hn => by
  obtain ⟨cx', sr', st', e⟩ := hw B c0 cx a sr st hn
  rw [← e]; exact h B c0 cx' a sr' st' hn
theorem Ca.loops (hm : P.follows .mixedOrders = true) {body : Code} {Q : A9 → St → Prop} {σ : Type} (I : σ → Prop) (st : σ → St) (μ : σ → Nat)
    (step : ∀ x, I x → W P K nt n0 body (st x) (Dv (fun s' => ∃ y, I y ∧ μ y < μ x ∧ Bo K nt n0 s' (st y)) Q)) : ∀ x, I x → Ca P K nt n0 (.loop body) (st x) Q := by
  have key : ∀ n x, μ x < n → I x → Q3 P K nt n0 body n (st x) Q := by
    intro n
    induction n with
    | zero => intro x h; omega
    | succ n ih =>
      intro x hx hI
      refine Q3.succ ((W9 hm body _ _ (step x hI)).mono fun ex s' h => ?_)
      cases ex with
      | normal =>
        obtain ⟨y, hy, hlt, hw⟩ := h
        exact (ih y (by omega) hy).Fk hw
      | exit i => exact h
      | ret => exact h
  exact fun x hI => .loop (key (μ x + 1) x (by omega) hI)
mutual
def Ir (π : Nat → Nat) : AV → AV
  | .agg cs => .agg (Ig π cs)
  | .tup cs => .tup (Ig π cs)
  | .ptr id off => .ptr (π id) off
  | .B8 cs off => .B8 (Ig π cs) off
  | .Dm n cs ex => .Dm n (Ig π cs) ex
  | .sl id off esz n cap ex => .sl (π id) off esz n cap ex
  | .fn f cs => .fn f (Ig π cs)
  | x => x
def Ig (π : Nat → Nat) : List AV → List AV
  | [] => []
  | x :: xs => Ir π x :: Ig π xs
end
mutual
theorem N4 (π : Nat → Nat) : ∀ {x : AV}, clean x = true → Ir π x = x
  | .D7, _ => rfl
  | .sc _, _ => rfl
  | .agg cs, h => by simp only [Ir]; rw [Fh π (by simpa [clean] using h)]
  | .tup cs, h => by simp only [Ir]; rw [Fh π (by simpa [clean] using h)]
  | .H3, _ => rfl
  | .ptr .., h => by simp [clean] at h
  | .B8 cs off, h => by simp only [Ir]; rw [Fh π (by simpa [clean] using h)]
  | .Cc, _ => rfl
  | .Dm n cs ex, h => by simp only [Ir]; rw [Fh π (by simpa [clean] using h)]
  | .sl .., h => by simp [clean] at h
  | .fn f cs, h => by simp only [Ir]; rw [Fh π (by simpa [clean] using h)]
  | .pX _, _ => rfl
theorem Fh (π : Nat → Nat) : ∀ {xs : List AV}, As xs = true → Ig π xs = xs
  | [], _ => rfl
  | x :: xs, h => by
    simp only [As, Bool.and_eq_true] at h
    simp only [Ig]; rw [N4 π h.1, Fh π h.2]
end
def Cx.Ir (c : Cx) (π : Nat → Nat) (m0 : Mem) : Cx := { w := c.w, f := fun id => c.f (π id), al := fun id => c.al (π id), M := Al m0, no := c.no }
section
variable {c : Cx} {π : Nat → Nat} {m0 : Mem}
theorem Jd (ho : ∀ b, (c.Ir π m0).own b → c.own b) {b : Nat} (h : c.Bl b) : (c.Ir π m0).Bl b := ⟨h.1, fun h' => h.2.1 (ho b h'), h.2.2⟩
mutual
theorem Uo (ho : ∀ b, (c.Ir π m0).own b → c.own b) : ∀ {x : AV} {v : Value}, Bb c (Go.Proofs.YtbfabclpcamlnaaGreatDoor.Ir π x) v → Bb (c.Ir π m0) x v
  | .D7, v, _ => .D7 v
  | .sc u, v, h => by simp only [Go.Proofs.YtbfabclpcamlnaaGreatDoor.Ir] at h; cases h with | sc _ hv => exact .sc _ hv
  | .agg cs, v, h => by simp only [Go.Proofs.YtbfabclpcamlnaaGreatDoor.Ir] at h; cases h with | agg hr => exact .agg (Hv ho hr)
  | .tup cs, v, h => by simp only [Go.Proofs.YtbfabclpcamlnaaGreatDoor.Ir] at h; cases h with | tup hr => exact .tup (Hv ho hr)
  | .H3, v, h => by simp only [Go.Proofs.YtbfabclpcamlnaaGreatDoor.Ir] at h; cases h; exact .H3
  | .ptr id off, v, h => by simp only [Go.Proofs.YtbfabclpcamlnaaGreatDoor.Ir] at h; cases h with | ptr ha => exact Bb.ptr (c := c.Ir π m0) (id := id) ha off
  | .B8 cs off, v, h => by simp only [Go.Proofs.YtbfabclpcamlnaaGreatDoor.Ir] at h; cases h with | B8 hb hr hc off => exact Bb.B8 (c := c.Ir π m0) (Jd ho hb) (Hv ho hr) hc off
  | .Cc, v, h => by simp only [Go.Proofs.YtbfabclpcamlnaaGreatDoor.Ir] at h; cases h; exact .Cc
  | .Dm n cs ex, v, h => by
    simp only [Go.Proofs.YtbfabclpcamlnaaGreatDoor.Ir] at h
    generalize hcs : Ig π cs = cs' at h
    cases h with
    | D6 a cap ex he hm hn =>
      cases cs with
      | nil => exact .D6 a cap ex he hm hn
      | cons y ys => simp [Ig] at hcs
    | Dm hb hr hc hn he hm => rw [← hcs] at hr; exact Bb.Dm (c := c.Ir π m0) (Jd ho hb) (Hv ho hr) hc hn he hm
  | .sl id off esz n cap ex, v, h => by simp only [Go.Proofs.YtbfabclpcamlnaaGreatDoor.Ir] at h; cases h with | sl ha hb hs hn hc he hm => exact Bb.sl (c := c.Ir π m0) (id := id) ha hb hs hn hc he hm
  | .fn f cs, v, h => by simp only [Go.Proofs.YtbfabclpcamlnaaGreatDoor.Ir] at h; cases h with | fn f hr => exact .fn f (Hv ho hr)
  | .pX p, v, h => by
    simp only [Go.Proofs.YtbfabclpcamlnaaGreatDoor.Ir] at h
    cases h with
    | Me => exact .Me
    | Mx u q => exact .Mx u q
theorem Hv (ho : ∀ b, (c.Ir π m0).own b → c.own b) : ∀ {xs : List AV} {vs : List Value}, Bf c (Ig π xs) vs → Bf (c.Ir π m0) xs vs
  | [], vs, h => by simp only [Ig] at h; cases h; exact .nil
  | x :: xs, vs, h => by simp only [Ig] at h; cases h with | cons h1 h2 => exact .cons (Uo ho h1) (Hv ho h2)
end
end
def Ag1 (e0 : List (Nat × AV)) (p : Nat → AV → Bool) : Bool := e0.all fun q => p q.1 q.2
theorem Yi : ∀ (e : List (Nat × AV)) (t : Nat), E7 e t = .D7 ∨ (t, E7 e t) ∈ e
  | [], t => .inl rfl
  | (j, v) :: r, t => by
    unfold E7
    cases h : Nat.beq j t with
    | true => simp only [cond_true]; rw [beq_true h]; exact .inr (by simp)
    | false =>
      simp only [cond_false]
      rcases Yi r t with h | h
      · exact .inl h
      · exact .inr (by simp [h])
def okE (e : List (Nat × AV)) : List (Nat × AV) → Prop
  | [] => True
  | (t, v) :: r => (E7 e t = v ∧ clean v = true) ∧ okE e r
end
end Go.Proofs.YtbfabclpcamlnaaGreatDoor
set_option linter.unusedVariables false
set_option linter.unusedSimpArgs false
namespace Go.Proofs.YtbfabclpcamlnaaGreatDoor
open Go.RowKit
structure En (α : Type) where
  size : Nat
  enc : α → List AV
  len : ∀ x, (enc x).length = size
  pos : 0 < size
  cell : ∀ x, (enc x).all Dd = true
  Di : ∀ x, As (enc x) = true
  R1 : ∀ x, F4 (enc x) = enc x
def Ay {α : Type} (E : En α) (l : List α) : List AV := l.flatMap E.enc
abbrev Am {α : Type} (E : En α) (l : List α) : AV := .Dm l.length (Ay E l) false
abbrev Aa (z : Int) : AV := .sc (.int .i64 z)
abbrev Ac (b : Bool) : AV := .sc (.bool b)
abbrev C6 (s : ByteArray) : AV := .sc (.string s)
section
variable {α : Type} {E : En α}
theorem lM : Ay E [] = [] := rfl
theorem Da (x : α) (l : List α) : Ay E (x :: l) = E.enc x ++ Ay E l := rfl
theorem Ds (l k : List α) : Ay E (l ++ k) = Ay E l ++ Ay E k := by simp [Ay]
theorem mO (x : α) : Ay E [x] = E.enc x := by simp [Ay]
theorem Bz (l : List α) : (Ay E l).length = l.length * E.size := by
  induction l with
  | nil => simp [Ay]
  | cons x l ih => rw [Da, List.length_append, ih, E.len, List.length_cons, Nat.add_mul, Nat.one_mul, Nat.add_comm]
theorem Hf (l : List α) (i : Nat) : (Ay E l).drop (i * E.size) = Ay E (l.drop i) := by
  induction l generalizing i with
  | nil => simp [Ay]
  | cons x l ih =>
    cases i with
    | zero => simp
    | succ i =>
      rw [Da, List.drop_append, List.drop_succ_cons, E.len]
      have h1 : (E.enc x).drop ((i + 1) * E.size) = [] := List.drop_eq_nil_of_le (by rw [E.len, Nat.add_mul]; omega)
      have h2 : (i + 1) * E.size - E.size = i * E.size := by rw [Nat.add_mul]; omega
      rw [h1, h2, List.nil_append, ih]
theorem Og (l : List α) (i : Nat) : (Ay E l).take (i * E.size) = Ay E (l.take i) := by
  induction l generalizing i with
  | nil => simp [Ay]
  | cons x l ih =>
    cases i with
    | zero => simp [Ay]
    | succ i =>
      rw [Da, List.take_append, List.take_succ_cons, E.len, Da]
      have h1 : (E.enc x).take ((i + 1) * E.size) = E.enc x := List.take_of_length_le (by rw [E.len, Nat.add_mul]; omega)
      have h2 : (i + 1) * E.size - E.size = i * E.size := by rw [Nat.add_mul]; omega
      rw [h1, h2, ih]
theorem O9 (l : List α) (i : Nat) (h : i < l.length) : elemAt E.size (Ay E l) i = E.enc l[i] := by
  unfold elemAt
  rw [Hf, List.drop_eq_getElem_cons h, Da, List.take_append_of_le_length (by rw [E.len]; exact Nat.le_refl _), List.take_of_length_le (by rw [E.len]; exact Nat.le_refl _)]
theorem L8 : ∀ (a b : List AV), As (a ++ b) = (As a && As b)
  | [], b => by simp [As]
  | x :: a, b => by simp [As, L8 a b, Bool.and_assoc]
theorem Nu : ∀ (a b : List AV), F4 (a ++ b) = F4 a ++ F4 b
  | [], b => by simp [F4]
  | x :: a, b => by simp [F4, Nu a b]
theorem Ak (l : List α) : As (Ay E l) = true := by
  induction l with
  | nil => rfl
  | cons x l ih => rw [Da, L8, E.Di, ih]; rfl
theorem Hi (l : List α) : F4 (Ay E l) = Ay E l := by
  induction l with
  | nil => rfl
  | cons x l ih => rw [Da, Nu, E.R1, ih]
theorem Ex (l : List α) : (Ay E l).all Dd = true := by
  induction l with
  | nil => rfl
  | cons x l ih => rw [Da, List.all_append, E.cell, ih]; rfl
theorem Mc (look : Nat → Option Bi) (k : Nat) : ∀ (cs : List AV), cs.all Dd = true → As cs = true → Ht (freeze look (k + 1)) cs = some cs
  | [], _, _ => rfl
  | x :: cs, h1, h2 => by
    simp only [List.all_cons, Bool.and_eq_true] at h1
    simp only [As, Bool.and_eq_true] at h2
    have hx : freeze look (k + 1) x = some x := by
      cases x <;> simp [Dd] at h1 <;> simp [clean] at h2 <;> simp [freeze, clean, h2]
    unfold Ht
    rw [hx, Mc look k cs h1.2 h2.2]
theorem Rf (look : Nat → Option Bi) (k : Nat) : ∀ (cs : List AV), cs.all Dd = true → (∀ x ∈ cs, ∀ f l, x ≠ .fn f l) → As cs = true → Ht (snap look (k + 1)) cs = some cs
  | [], _, _, _ => rfl
  | x :: cs, h1, h3, h2 => by
    simp only [List.all_cons, Bool.and_eq_true] at h1
    simp only [As, Bool.and_eq_true] at h2
    have hx : snap look (k + 1) x = some x := by
      cases x with
      | fn f l => exact absurd rfl (h3 _ (by simp) f l)
      | _ => simp [Dd] at h1 <;> simp [clean] at h2 <;> simp [snap, clean, h2]
    unfold Ht
    rw [hx, Rf look k cs h1.2 (fun y hy => h3 y (by simp [hy])) h2.2]
theorem rN {b : Bool} {x y : Prop} (h1 : b = true → x) (h2 : b = false → y) : bif b then x else y := by cases b <;> simp_all
variable {P : Program} {look : Nat → Option Bi} {t yt ty n : Nat}
theorem cL {op : BinOp} {a b v : Value} (h : Lf op a b = some v) : B9 P (.binOp op t (.tmp 0) (.tmp 1) yt) ty [.sc a, .sc b] look n = some (.sc v, []) := by simp [B9, My, u6, Nh, h]
theorem lK {sz : Nat} (hs : E.size = sz) (l : List α) (ex : Bool) (i : Nat) (h : i < l.length) : Db sz (.Dm l.length (Ay E l) ex) (.sc (.int .i64 (i : Int))) = some (.B8 (E.enc l[i]) 0, []) := by
  subst hs
  have h1 : decide ((0 : Int) ≤ (i : Int)) = true := by simp
  have h2 : decide ((i : Int) < (l.length : Int)) = true := by simpa using h
  simp only [Db, h1, h2, Bool.true_or, Bool.and_self, cond_true, Int.toNat_natCast, O9 l i h]
theorem Ec {id off : Nat} {b : Bi} {x : AV} (hb : look id = some b) (h : b.cells[off]? = some x) : Fe look (.ptr id off) = some (x, []) := by simp [Fe, hb, h]
theorem wrap64 {z : Int} (h1 : -9223372036854775808 ≤ z) (h2 : z ≤ 9223372036854775807) : IntKind.wrap .i64 z = z := IntWalk.i64_in z ⟨h1, h2⟩
theorem nO {l : List α} {ex : Bool} {k : Bool → Prop} (h : ∀ b, (b = true → l = []) → k b) : T4 (.Dm l.length (Ay E l) ex) k := by
  cases l with
  | nil => exact fun b => h b fun _ => rfl
  | cons x l =>
    have hx : Ay E (x :: l) ≠ [] := by
      intro e
      have := congrArg List.length e
      rw [Bz] at this
      have hp := E.pos
      simp only [List.length_cons, List.length_nil] at this
      have : (l.length + 1) * E.size ≥ 1 * 1 := Nat.mul_le_mul (by omega) hp
      omega
    unfold T4
    split
    · rename_i h'; cases h'
    · rename_i h'
      cases h'
      split
      · rename_i h'; exact absurd h' hx
      · exact h false (fun h => by cases h)
    · rename_i h'; cases h'
    · rename_i h1 h2 h3; exact absurd rfl (h2 _ _ _)
theorem qS {e sz by_ : Nat} {zs : List AV} {m : Nat} {x : AV} (hs : E.size = sz) (l : List α) {ex : Bool} (h0 : l ≠ []) (hb : l.length * by_ ≤ 140737488355328) (hb2 : l.length ≤ 4611686018427387904) (hz : zs.length = sz) (id off cap : Nat) (b : Bi) (hl : look id = some b) (hoff : off + 0 ≤ b.cells.length) :
    app look e sz by_ zs m (.sl id off sz 0 0 true) (.Dm l.length (Ay E l) ex) = some (.sl m 0 sz l.length l.length false, [(m, some ⟨Ay E l, e⟩)]) := by
  subst hs
  have hp := E.pos
  have hlen : 0 < l.length := List.length_pos_iff.2 h0
  have c1 : cellsOf look E.size (.Dm l.length (Ay E l) ex) = some (l.length, Ay E l) := by
    simp only [cellsOf, Bz, Nat.beq_refl, cond_true]
  have c2 : cellsOf look E.size (.sl id off E.size 0 0 true) = some (0, []) := by
    have : Nat.ble (off + 0) b.cells.length = true := Nat.ble_eq_true_of_le hoff
    simp only [cellsOf, hl, Nat.zero_mul, this, Nat.beq_refl, Bool.true_or, Bool.and_self, cond_true, Nat.zero_mul, List.take_zero]
  have t1 : Nat.beq l.length 0 = false := by
    cases h : Nat.beq l.length 0 with
    | false => rfl
    | true => have := Nat.eq_of_beq_eq_true h; omega
  have t2 : Nat.ble (l.length * by_) 140737488355328 = true := Nat.ble_eq_true_of_le hb
  have t3 : Nat.ble l.length 4611686018427387904 = true := Nat.ble_eq_true_of_le (by omega)
  have t4 : Nat.beq zs.length E.size = true := by rw [hz]; exact Nat.beq_refl _
  have t5 : Nat.ble 1 E.size = true := Nat.ble_eq_true_of_le hp
  have t6 : Nat.beq (Ay E l).length (l.length * E.size) = true := by rw [Bz]; exact Nat.beq_refl _
  have t7 : Nat.beq ([] : List AV).length (0 * E.size) = true := by simp
  have t8 : Nat.ble l.length 0 = false := by
    cases h : Nat.ble l.length 0 with
    | false => rfl
    | true => have := Nat.le_of_ble_eq_true h; omega
  simp only [app, c1, c2, t1, cond_false, Nat.zero_add, t2, t3, t4, t5, t6, t7, t8, Ex, Bool.true_or, Bool.and_self, cond_true, Nat.zero_add, List.nil_append]
end
end Go.Proofs.YtbfabclpcamlnaaGreatDoor
