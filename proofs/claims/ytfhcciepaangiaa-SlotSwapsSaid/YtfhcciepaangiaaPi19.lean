/- Code as a condition on what comes after it: unfolding it runs the code on plain values that need not be known. -/
import Derived.Test.YtfhcciepaangiaaPi18
set_option linter.unusedVariables false
set_option linter.unusedSimpArgs false
namespace Go.Proofs.Ytfhcciepaangiaa
open Go.RowKit

abbrev Mem := List (Nat × Option ABlk)
def isWr : Op → Bool
  | .alloc _ => true
  | .box _ _ => true
  | .store .. => true
  | .buildSlice .. => true
  | .makeSlice .. => true
  | .call c => match c.callee with
    | .builtin .append => true
    | .builtin .copy => true
    | .builtin .clear => true
    | _ => false
  | _ => false
def opP (r : Res) (k : AV → Prop) : Prop := match r with
  | some (v, []) => k v
  | _ => False
def opM (r : Res) (k : AV → Wr → Prop) : Prop := match r with
  | some (v, d) => k v d
  | none => False
def spl (v : AV) (x y : Prop) : Prop := match v with
  | .sc (.bool b) => bif b then x else y
  | _ => False
def isG (ops : Array Oper) (i : Nat) : Bool := ops.toList.any fun o => match o.guard with
  | some (j, _) => Nat.beq j i
  | none => false
def splitG (g : Bool) (v : AV) (k : AV → Prop) : Prop := bif g then spl v (k (.sc (.bool true))) (k (.sc (.bool false))) else k v
def putK (nt : Nat) (e : List (Nat × AV)) (dst : Option Nat) (v : AV) (k : List (Nat × AV) → Prop) : Prop := match putD nt e dst v with
  | some e => k e
  | none => False
def callW (P : Program) (gl : Nat → Option (List AV)) (m : Mem) (nx : Nat) (f : FuncId) (args : List AV) (k : AV → Mem → Prop) : Prop :=
  Plainly P f ∧ ∀ (B : Nat) (c : Cx) (vals : List Value), Good B c → GlobOk gl c → (∀ id, c.M id = mget m id) → (∀ id, c.al id → id < nx) → Rels c args vals → Calls P f vals.toArray c.w (fun e w' => ∃ v m', k v m' ∧ CallPost B c v m' (nx + 64) e w')
def callQ (P : Program) (gl : Nat → Option (List AV)) (m : Mem) (f : FuncId) (args : List AV) (k : AV → Prop) : Prop := ∃ v, PureAt P gl (mget m) f args v ∧ k v
def callF (P : Program) (gl : Nat → Option (List AV)) (m : Mem) (n : Nat) (f : FuncId) (args : List AV) (k : AV → Wr → List Nat → Prop) : Prop := ∃ v d ft, PureD P gl (look' m ft) n f args v d ∧ k v d ft
def fnArgs (g : Option AV) (ar : Option (List AV)) (k : FuncId → List AV → Prop) : Prop := match g, ar with
  | some (.fn f caps), some ar => k f (ar ++ caps)
  | _, _ => False
/- what is known of a value by its type -/
inductive Shp where
  | any
  | int (k : IntKind)
  | bool
  | str
  | agg (l : List Shp)
  | tup (l : List Shp)
def shapeC : Shp → List Shp
  | .agg l => l
  | s => [s]
def shapeOf (P : Program) : Nat → TypeId → Shp
  | 0, _ => .any
  | f + 1, t => match P.underlying t with
    | some (.int k) => .int k
    | some .bool => .bool
    | some .string => .str
    | some (.struct fs) => .agg (fs.toList.flatMap fun fd => shapeC (shapeOf P f fd.type))
    | some (.array n e) => .agg ((List.replicate n (shapeC (shapeOf P f e))).flatten)
    | some (.tuple ts) => .tup (ts.toList.map (shapeOf P f))
    | _ => .any
def shpLim : Shp → Shp
  | .agg l => bif Nat.ble l.length 24 then .agg l else .any
  | s => s
def shp (P : Program) (t : TypeId) : Shp := match shapeOf P 8 t with
  | .tup l => .tup (l.map shpLim)
  | s => shpLim s
def ex_i8 (v : AV) (k : Int → Prop) : Prop := match v with
  | .sc (.int .i8 z) => k z
  | _ => False
def ex_i16 (v : AV) (k : Int → Prop) : Prop := match v with
  | .sc (.int .i16 z) => k z
  | _ => False
def ex_i32 (v : AV) (k : Int → Prop) : Prop := match v with
  | .sc (.int .i32 z) => k z
  | _ => False
def ex_i64 (v : AV) (k : Int → Prop) : Prop := match v with
  | .sc (.int .i64 z) => k z
  | _ => False
def ex_u8 (v : AV) (k : Int → Prop) : Prop := match v with
  | .sc (.int .u8 z) => k z
  | _ => False
def ex_u16 (v : AV) (k : Int → Prop) : Prop := match v with
  | .sc (.int .u16 z) => k z
  | _ => False
def ex_u32 (v : AV) (k : Int → Prop) : Prop := match v with
  | .sc (.int .u32 z) => k z
  | _ => False
def ex_u64 (v : AV) (k : Int → Prop) : Prop := match v with
  | .sc (.int .u64 z) => k z
  | _ => False
def exK : IntKind → AV → (Int → Prop) → Prop
  | .i8, v, q => ex_i8 v q
  | .i16, v, q => ex_i16 v q
  | .i32, v, q => ex_i32 v q
  | .i64, v, q => ex_i64 v q
  | .u8, v, q => ex_u8 v q
  | .u16, v, q => ex_u16 v q
  | .u32, v, q => ex_u32 v q
  | .u64, v, q => ex_u64 v q
def exB (v : AV) (k : Bool → Prop) : Prop := match v with
  | .sc (.bool b) => k b
  | _ => False
def exStr (v : AV) (k : ByteArray → Prop) : Prop := match v with
  | .sc (.string s) => k s
  | _ => False
def exL : Nat → List AV → (List AV → Prop) → Prop
  | 0 => fun cs k => match cs with
    | [] => k []
    | _ :: _ => False
  | n + 1 => fun cs k => match cs with
    | [] => False
    | x :: xs => exL n xs fun l => k (x :: l)
def exAgg (n : Nat) (v : AV) (k : List AV → Prop) : Prop := match v with
  | .agg cs => exL n cs k
  | _ => False
def exTup (n : Nat) (v : AV) (k : List AV → Prop) : Prop := match v with
  | .tup cs => exL n cs k
  | _ => False
def exEach (f : Shp → AV → (AV → Prop) → Prop) : List Shp → List AV → (List AV → Prop) → Prop
  | s :: ss, x :: xs, k => f s x fun y => exEach f ss xs fun ys => k (y :: ys)
  | [], [], k => k []
  | _, _, _ => False
def expS : Nat → Shp → AV → (AV → Prop) → Prop
  | 0, _, v, k => k v
  | _ + 1, .any, v, k => k v
  | _ + 1, .int ik, v, k => exK ik v fun z => k (.sc (.int ik z))
  | _ + 1, .bool, v, k => exB v fun b => k (.sc (.bool b))
  | _ + 1, .str, v, k => exStr v fun s => k (.sc (.string s))
  | f + 1, .agg l, v, k => exAgg l.length v fun cs => exEach (expS f) l cs fun cs => k (.agg cs)
  | f + 1, .tup l, v, k => exTup l.length v fun cs => exEach (expS f) l cs fun cs => k (.tup cs)
def resShape (P : Program) (o : Oper) : Shp := match o.op with
  | .load t _ => shp P t
  | .call _ => shp P o.type
  | .convert _ d _ => shp P d
  | .index .. => shp P o.type
  | .field .. => shp P o.type
  | .unOp _ t _ => shp P t
  | .binOp op t _ _ _ => (match op with
    | .eql => .bool
    | .neq => .bool
    | .lss => .bool
    | .leq => .bool
    | .gtr => .bool
    | .geq => .bool
    | _ => shp P t)
  | _ => .any
theorem ex_k_elim {ik : IntKind} {v : AV} {k : AV → Prop} (h : exK ik v fun z => k (.sc (.int ik z))) : k v := by
  cases ik <;> (simp only [exK, ex_i8, ex_i16, ex_i32, ex_i64, ex_u8, ex_u16, ex_u32, ex_u64] at h; split at h; (exact h); (exact h.elim))
theorem exL_elim : ∀ {n : Nat} {cs : List AV} {k : List AV → Prop}, exL n cs k → k cs
  | 0, [], k, h => h
  | n + 1, x :: xs, k, h => exL_elim (n := n) (cs := xs) (k := fun l => k (x :: l)) h
  | 0, _ :: _, k, h => by simp [exL] at h
  | _ + 1, [], k, h => by simp [exL] at h
theorem exEach_elim {f : Shp → AV → (AV → Prop) → Prop} (hf : ∀ s v k, f s v k → k v) : ∀ {ss : List Shp} {cs : List AV} {k : List AV → Prop}, exEach f ss cs k → k cs
  | s :: ss, x :: xs, k, h => exEach_elim hf (ss := ss) (cs := xs) (k := fun ys => k (x :: ys)) (hf s x _ h)
  | [], [], k, h => h
  | [], _ :: _, k, h => by simp [exEach] at h
  | _ :: _, [], k, h => by simp [exEach] at h
theorem expS_elim : ∀ (f : Nat) (s : Shp) (v : AV) (k : AV → Prop), expS f s v k → k v
  | 0, _, v, k, h => h
  | _ + 1, .any, v, k, h => h
  | _ + 1, .int ik, v, k, h => ex_k_elim h
  | _ + 1, .bool, v, k, h => by
    simp only [expS, exB] at h
    split at h
    · exact h
    · exact h.elim
  | _ + 1, .str, v, k, h => by
    simp only [expS, exStr] at h
    split at h
    · exact h
    · exact h.elim
  | f + 1, .agg l, v, k, h => by
    simp only [expS, exAgg] at h
    split at h
    · exact exEach_elim (expS_elim f) (exL_elim h)
    · exact h.elim
  | f + 1, .tup l, v, k, h => by
    simp only [expS, exTup] at h
    split at h
    · exact exEach_elim (expS_elim f) (exL_elim h)
    · exact h.elim
/- memory, the latest on top -/
def mpushs (m : Mem) : Wr → Mem
  | [] => m
  | p :: r => mpushs (p :: m) r
theorem mget_mpushs (d : Wr) : ∀ (m : Mem) (id : Nat), mget (mpushs m d) id = upd (mget m) d id := by
  induction d with
  | nil => intro m id; rfl
  | cons p r ih =>
    obtain ⟨i, v⟩ := p
    intro m id
    unfold mpushs upd
    rw [ih]
    congr 1
    funext k
    show (bif Nat.beq i k then v else mget m k) = _
    cases h : Nat.beq i k with
    | true => simp [beq_true h]
    | false => have := beq_false h; simp only [cond_false]; rw [if_neg (fun e => this e.symm)]
def chk (b : Bool) (p : Prop) : Prop := bif b then p else False
def chkAll : List AV → Prop → Prop
  | [], p => p
  | x :: r, p => chk (isCell x) (chkAll r p)
/- the cells of a value of a type -/
def cellsW (P : Program) (t : TypeId) (x : AV) (k : List AV → Prop) : Prop := match P.underlying t with
  | some d => bif isAggD d then (match x, tsize P t with
      | .agg cs, some n => chk (Nat.beq cs.length n) (chkAll cs (k cs))
      | _, _ => False) else (match tsize P t with
      | some 1 => chk (isCell x) (k [x])
      | _ => False)
  | none => False
def storeW (P : Program) (look : Nat → Option ABlk) (t : TypeId) (a x : AV) (k : AV → Wr → Prop) : Prop := match a with
  | .ptr id off => (match look id with
    | some b => cellsW P t x fun cs => chk (Nat.ble (off + cs.length) b.cells.length) (k .und [(id, some ⟨aput b.cells off cs, b.ty⟩)])
    | none => False)
  | _ => False
def boxW (P : Program) (t : TypeId) (n : Nat) (x : AV) (k : AV → Wr → Prop) : Prop := cellsW P t x fun cs => k (.ptr n 0) [(n, some ⟨cs, t⟩)]
section
variable (P : Program) (K : Cfg) (nt : Nat) (ops : Array Oper)
/- a slice compared with nil: an empty one may be nil or not -/
def nilK (x : AV) (k : Bool → Prop) : Prop := match x with
  | .nils => k true
  | .lst _ cs _ => (match cs with
    | [] => ∀ b, k b
    | _ :: _ => k false)
  | .sl .. => k false
  | _ => False
def isNilC : Operand → Bool
  | .const (.slice none 0 0) => true
  | _ => false
def isSlT (P : Program) (t : TypeId) : Bool := match P.underlying t with
  | some (.slice _) => true
  | _ => false
def opW (s : St) (o : Oper) (k : AV → Mem → Nat → Prop) : Prop :=
  match o.op with
  | .call { callee := .value g, args, .. } => fnArgs (rho K.gl s.e g) (opts (rho K.gl s.e) args.toList) fun f ar => bif K.pm f then callQ P K.gl s.m f ar (fun v => k v s.m (s.nx + 64)) else callW P K.gl s.m s.nx f ar (fun v m => k v m (s.nx + 64))
  | .store t a x => (match rho K.gl s.e a, rho K.gl s.e x with
    | some a, some x => storeW P (mget s.m) t a x fun v d => k v (mpushs s.m d) (s.nx + 1)
    | _, _ => False)
  | .box t x => (match rho K.gl s.e x with
    | some x => boxW P t s.nx x fun v d => k v (mpushs s.m d) (s.nx + 1)
    | none => False)
  | .binOp .eql t x y _ => bif isSlT P t && isNilC y then (match rho K.gl s.e x with
      | some x => nilK x fun b => k (.sc (.bool b)) s.m (s.nx + 1)
      | none => False) else opP (aop P (rho K.gl s.e) (mget s.m) s.nx o) fun v => k v s.m (s.nx + 1)
  | .binOp .neq t x y _ => bif isSlT P t && isNilC y then (match rho K.gl s.e x with
      | some x => nilK x fun b => k (.sc (.bool (!b))) s.m (s.nx + 1)
      | none => False) else opP (aop P (rho K.gl s.e) (mget s.m) s.nx o) fun v => k v s.m (s.nx + 1)
  | op => bif isWr op then opM (aop P (rho K.gl s.e) (mget s.m) s.nx o) fun v d => k v (mpushs s.m d) (s.nx + 1) else opP (aop P (rho K.gl s.e) (mget s.m) s.nx o) fun v => k v s.m (s.nx + 1)
def opQ (s : St) (o : Oper) (k : AV → Prop) : Prop :=
  match o.op with
  | .call { callee := .value g, args, .. } => fnArgs (rho K.gl s.e g) (opts (rho K.gl s.e) args.toList) fun f ar => callQ P K.gl s.m f ar k
  | _ => opP (aop P (rho K.gl s.e) (mget s.m) s.nx o) k
def opF (s : St) (o : Oper) (k : AV → Wr → List Nat → Prop) : Prop :=
  match o.op with
  | .call { callee := .value g, args, .. } => fnArgs (rho K.gl s.e g) (opts (rho K.gl s.e) args.toList) fun f ar => callF P K.gl s.m s.nx f ar k
  | .store t a x => (match rho K.gl s.e a, rho K.gl s.e x with
    | some a, some x => storeW P (look' s.m (footN (rho K.gl s.e) o)) t a x fun v d => k v d (footN (rho K.gl s.e) o)
    | _, _ => False)
  | .box t x => (match rho K.gl s.e x with
    | some x => boxW P t s.nx x fun v d => k v d (footN (rho K.gl s.e) o)
    | none => False)
  | _ => opM (aop P (rho K.gl s.e) (look' s.m (footN (rho K.gl s.e) o)) s.nx o) fun v d => k v d (footN (rho K.gl s.e) o)
def WS : List Oper → Nat → St → (St → Prop) → Prop
  | [], _, s, Q => Q s
  | o :: r, i, s, Q => match awanted ops s.e o with
    | some true => opW P K s o fun v m nx => expS 4 (resShape P o) v fun v => splitG (isG ops i) v fun v => putK nt s.e o.dst v fun e => WS r (i + 1) ⟨e, m, nx⟩ Q
    | some false => putK nt s.e o.dst (.tup []) fun e => WS r (i + 1) ⟨e, s.m, s.nx⟩ Q
    | none => False
def WQ : List Oper → Nat → St → (St → Prop) → Prop
  | [], _, s, Q => Q s
  | o :: r, i, s, Q => match awanted ops s.e o with
    | some true => opQ P K s o fun v => expS 4 (resShape P o) v fun v => splitG (isG ops i) v fun v => putK nt s.e o.dst v fun e => WQ r (i + 1) ⟨e, s.m, s.nx + 1⟩ Q
    | some false => putK nt s.e o.dst (.tup []) fun e => WQ r (i + 1) ⟨e, s.m, s.nx + 1⟩ Q
    | none => False
def WF (ms : List Nat) : List Oper → Nat → St → List Rec → (St → Prop) → Prop
  | [], _, s, rs, Q => chk (confOk ms rs) (Q s)
  | o :: r, i, s, rs, Q => match awanted ops s.e o with
    | some true => opF P K s o fun v d ft => expS 4 (resShape P o) v fun v => splitG (isG ops i) v fun v => putK nt s.e o.dst v fun e => WF ms r (i + 1) ⟨e, mpushs s.m d, s.nx + 1⟩ (rs ++ [⟨d, ft⟩]) Q
    | some false => putK nt s.e o.dst (.tup []) fun e => WF ms r (i + 1) ⟨e, s.m, s.nx + 1⟩ (rs ++ [⟨[], []⟩]) Q
    | none => False
def WR (draw : Bool) (s : St) (Q : St → Prop) : Prop :=
  bif draw then chk (statOk ops (masks ops.toList [])) (bif ops.toList.any (fun o => isWr o.op) then WF P K nt ops (masks ops.toList []) ops.toList 0 s [] Q else WQ P K nt ops ops.toList 0 s Q)
  else WS P K nt ops ops.toList 0 s Q
end
def W (P : Program) (K : Cfg) (nt n0 : Nat) : Code → St → (AExit → St → Prop) → Prop
  | .skip, s, Q => Q .normal s
  | .region _ ops d, s, Q => WR P K nt ops d s (Q .normal)
  | .seq a b, s, Q => W P K nt n0 a s (thenQ (fun s' => W P K nt n0 b s' Q) Q)
  | .cond c a b, s, Q => match rho K.gl s.e c with
    | some v => spl v (W P K nt n0 a s Q) (W P K nt n0 b s Q)
    | none => False
  | .block id b, s, Q => W P K nt n0 b s (blockQ id Q)
  | .loop b, s, Q => Tri P K nt n0 (.loop b) s Q
  | .exit id, s, Q => Q (.exit id) s
  | .ret, s, Q => Q .ret s
  | .label _, s, Q => Q .normal s
  | _, _, _ => False

section
variable {P : Program} {K : Cfg} {nt n0 : Nat} {ops : Array Oper}
theorem opP_elim {r : Res} {k : AV → Prop} (h : opP r k) : ∃ v, r = some (v, []) ∧ k v := by
  unfold opP at h
  split at h
  · exact ⟨_, rfl, h⟩
  · exact h.elim
theorem opM_elim {r : Res} {k : AV → Wr → Prop} (h : opM r k) : ∃ v d, r = some (v, d) ∧ k v d := by
  unfold opM at h
  split at h
  · exact ⟨_, _, rfl, h⟩
  · exact h.elim
theorem spl_elim {v : AV} {x y : Prop} (h : spl v x y) : ∃ b, v = .sc (.bool b) ∧ (b = true → x) ∧ (b = false → y) := by
  unfold spl at h
  split at h
  · rename_i b
    refine ⟨b, rfl, ?_, ?_⟩
    · rintro rfl; exact h
    · rintro rfl; exact h
  · exact h.elim
theorem splitG_elim {g : Bool} {v : AV} {k : AV → Prop} (h : splitG g v k) : k v := by
  unfold splitG at h
  cases g with
  | false => exact h
  | true =>
    obtain ⟨b, rfl, h1, h2⟩ := spl_elim h
    cases b with
    | true => exact h1 rfl
    | false => exact h2 rfl
theorem putK_elim {nt : Nat} {e : List (Nat × AV)} {dst : Option Nat} {v : AV} {k : List (Nat × AV) → Prop} (h : putK nt e dst v k) : ∃ e', putD nt e dst v = some e' ∧ k e' := by
  unfold putK at h
  split at h
  · rename_i e' he; exact ⟨e', he, h⟩
  · exact h.elim
theorem chk_elim {b : Bool} {p : Prop} (h : chk b p) : b = true ∧ p := by
  unfold chk at h
  cases b with
  | true => exact ⟨rfl, h⟩
  | false => exact h.elim
theorem fnArgs_elim {g : Option AV} {ar : Option (List AV)} {k : FuncId → List AV → Prop} (h : fnArgs g ar k) : ∃ f caps l, g = some (.fn f caps) ∧ ar = some l ∧ k f (l ++ caps) := by
  unfold fnArgs at h
  split at h
  · exact ⟨_, _, _, rfl, rfl, h⟩
  · exact h.elim
theorem chk_elim0 {b : Bool} {p : Prop} (h : chk b p) : b = true ∧ p := by
  unfold chk at h
  cases b with
  | true => exact ⟨rfl, h⟩
  | false => exact h.elim
theorem chkAll_elim : ∀ {cs : List AV} {p : Prop}, chkAll cs p → cs.all isCell = true ∧ p
  | [], p, h => ⟨rfl, h⟩
  | x :: r, p, h => by
    obtain ⟨h1, h2⟩ := chk_elim0 h
    obtain ⟨h3, h4⟩ := chkAll_elim h2
    exact ⟨by simp [h1, h3], h4⟩
theorem cellsW_elim {t : TypeId} {x : AV} {k : List AV → Prop} (h : cellsW P t x k) : ∃ cs n, acells x = some cs ∧ tsize P t = some n ∧ cs.length = n ∧ cs.all isCell = true ∧ k cs := by
  unfold cellsW at h
  split at h
  · rename_i d hd
    cases hg : isAggD d with
    | true =>
      rw [hg] at h
      simp only [cond_true] at h
      split at h
      · rename_i cs n hn
        obtain ⟨h1, h2⟩ := chk_elim0 h
        obtain ⟨h3, h4⟩ := chkAll_elim h2
        exact ⟨cs, n, rfl, hn, Nat.eq_of_beq_eq_true h1, h3, h4⟩
      · exact h.elim
    | false =>
      rw [hg] at h
      simp only [cond_false] at h
      split at h
      · rename_i hn
        obtain ⟨h1, h2⟩ := chk_elim0 h
        refine ⟨[x], 1, ?_, hn, rfl, by simp [h1], h2⟩
        cases x <;> simp [isCell] at h1 <;> rfl
      · exact h.elim
  · exact h.elim
theorem storeW_elim {look : Nat → Option ABlk} {t : TypeId} {a x : AV} {k : AV → Wr → Prop} (h : storeW P look t a x k) : ∃ v d, aStore P look t a x = some (v, d) ∧ k v d := by
  unfold storeW at h
  split at h
  · rename_i id off
    split at h
    · rename_i b hb
      obtain ⟨cs, n, h1, h2, h3, h4, h5⟩ := cellsW_elim h
      obtain ⟨h6, h7⟩ := chk_elim0 h5
      refine ⟨_, _, ?_, h7⟩
      have h3' : Nat.beq cs.length n = true := by rw [h3]; exact Nat.beq_refl n
      unfold aStore
      simp only [h1, h2, hb, h3', h6, h4, Bool.and_self, cond_true]
    · exact h.elim
  · exact h.elim
theorem boxW_elim {t : TypeId} {n : Nat} {x : AV} {k : AV → Wr → Prop} (h : boxW P t n x k) : ∃ cs, acells x = some cs ∧ k (.ptr n 0) [(n, some ⟨cs, t⟩)] := by
  obtain ⟨cs, m, h1, h2, h3, h4, h5⟩ := cellsW_elim h
  exact ⟨cs, h1, h5⟩
theorem nilK_real {c : Cx} {x : AV} {k : Bool → Prop} (h : nilK x k) {v : Value} (r : VRel c x v) : ∃ a n cap, v = .slice a n cap ∧ k a.isNone := by
  unfold nilK at h
  split at h
  · cases r; exact ⟨none, 0, 0, rfl, h⟩
  · split at h
    · cases r with
      | lst0 a cap ex he hm hn => exact ⟨a, 0, cap, rfl, h _⟩
      | lst hb hr hc hn he hm => exact ⟨_, _, _, rfl, h _⟩
    · cases r with
      | lst hb hr hc hn he hm => exact ⟨_, _, _, rfl, h⟩
  · cases r; exact ⟨_, _, _, rfl, h⟩
  · exact h.elim
theorem isNilC_eq {y : Operand} (h : isNilC y = true) : y = .const (.slice none 0 0) := by
  unfold isNilC at h
  split at h
  · rfl
  · cases h
theorem isSlT_eq {t : TypeId} (h : isSlT P t = true) : ∃ e, P.underlying t = some (.slice e) := by
  unfold isSlT at h
  split at h
  · rename_i e he; exact ⟨e, he⟩
  · cases h
theorem WS_ok {R : St → Prop} {B : Nat} {c0 : Cx} (hn : ∀ id, c0.al id → id < n0) : ∀ (rest pre : List Oper) {s : St} {c : Cx} {a : Act}, ops.toList = pre ++ rest → WS P K nt ops rest pre.length s R → SR K.gl B nt c s a → Step c0 c →
    wpOps P ops (TPost K nt B c0 (fun x s => x = .normal ∧ R s)) (List.range' pre.length rest.length) a c.w
  | [], pre, s, c, a, hops, h, sr, st => ⟨.normal, s, c, rfl, ⟨rfl, h⟩, sr, rfl, st⟩
  | o :: r, pre, s, c, a, hops, h, sr, st => by
    have hget : ops[pre.length]? = some o := by rw [← Array.getElem?_toList, hops]; simp
    have hops' : ops.toList = (pre ++ [o]) ++ r := by rw [hops]; simp
    simp only [List.length_cons, List.range'_succ]
    unfold wpOps
    simp only [hget]
    unfold WS at h
    split at h
    · rename_i hw
      rw [wanted_ok (fun t _ _ _ _ => sr.e t) hw]
      simp only [if_true]
      left
      have fin : ∀ (c1 : Cx) (v : AV) (v' : Value) (m' : Mem) (nx' : Nat), (expS 4 (resShape P o) v fun v => splitG (isG ops pre.length) v fun v => putK nt s.e o.dst v fun e => WS P K nt ops r (pre.length + 1) ⟨e, m', nx'⟩ R) → VRel c1 v v' → Step c c1 → Good B c1 → (∀ id, c1.M id = mget m' id) → (∀ id, c1.al id → id < nx') → wpOps P ops (TPost K nt B c0 (fun x s => x = .normal ∧ R s)) (List.range' (pre.length + 1) r.length) (a.put o.dst v') c1.w := by
        intro c1 v v' m' nx' hk k1 k2 k3 k4 k5
        obtain ⟨e', hput, hrest⟩ := putK_elim (splitG_elim (expS_elim 4 _ _ _ hk))
        have sr1 : SR K.gl B nt c1 ⟨e', m', nx'⟩ (a.put o.dst v') := ⟨k3, putD_rel hput sr.sz (fun t => (sr.e t).step k2) k1, k4, k5, put_size.trans sr.sz, put_defers.trans sr.df, sr.gl.step k2⟩
        have := WS_ok hn r (pre ++ [o]) hops' (by simpa using hrest) sr1 (st.trans k2)
        simpa using this
      have plain : ∀ (v : AV) (d : Wr), aop P (rho K.gl s.e) (mget s.m) s.nx o = some (v, d) → (expS 4 (resShape P o) v fun v => splitG (isG ops pre.length) v fun v => putK nt s.e o.dst v fun e => WS P K nt ops r (pre.length + 1) ⟨e, mpushs s.m d, s.nx + 1⟩ R) → o.wp P a c.w (wpOps P ops (TPost K nt B c0 (fun x s => x = .normal ∧ R s)) (List.range' (pre.length + 1) r.length)) (TPost K nt B c0 (fun x s => x = .normal ∧ R s)) := by
        intro v d ha hk
        refine OpSem.aop ha B c a _ _ sr.g sr.gl (fun h => Nat.lt_irrefl _ (sr.al _ h)) (fun id b h => by rw [sr.m]; exact h) (fun x _ y hy => rho_rel sr.gl (fun t _ => sr.e t) hy) ?_
        intro c1 v' k1 k2 k3 k4 k5 k6
        exact fin c1 v v' _ _ hk k1 k2 k3 (fun id => by rw [k4, mget_mpushs]; exact upd_congr d sr.m id) (fun id h => by
          rcases k5 id h with h | rfl
          · exact Nat.lt_succ_of_lt (sr.al id h)
          · exact Nat.lt_succ_self _)
      unfold opW at h
      split at h
      · rename_i gg args ats ho
        obtain ⟨f, caps, l, h1, h2, h3⟩ := fnArgs_elim h
        have ⟨hp, hc⟩ : callW P K.gl s.m s.nx f (l ++ caps) (fun v m => expS 4 (resShape P o) v fun v => splitG (isG ops pre.length) v fun v => putK nt s.e o.dst v fun e => WS P K nt ops r (pre.length + 1) ⟨e, m, s.nx + 64⟩ R) := by
          cases hpm : K.pm f with
          | false => rw [hpm] at h3; exact h3
          | true =>
            rw [hpm] at h3
            obtain ⟨v, ⟨hp, hc⟩, hk⟩ := h3
            exact ⟨hp, fun B c vals g hgl hM ha hr => (hc B c vals g hgl (fun id b hb => by rw [hM]; exact hb) hr).mono fun e w' ⟨v', c', h1, h2, h3, h4, h5, h6, h7⟩ =>
              ⟨v, s.m, hk, v', c', h1, h2, h3, h4, h5, fun id => by rw [h6, hM], fun id h => by have := ha id ((h7 id).1 h); omega⟩⟩
        have hg := rho_rel (c := c) (a := a) sr.gl (fun t _ => sr.e t) h1
        generalize hgv : a.eval gg = u at hg
        cases hg with
        | fn f hcaps =>
          have hargs := opts_rel (c := c) (ev := a.eval) (fun x _ y hy => rho_rel sr.gl (fun t _ => sr.e t) hy) h2
          refine wp_call ho hgv hp (hc B c _ sr.g sr.gl sr.m sr.al (hargs.append hcaps)) ?_
          rintro e2 w' ⟨v, m', hk, v', c', rfl, rfl, k1, k2, k3, k4, k5⟩
          exact ⟨v', rfl, fin c' v v' m' _ hk k1 k2 k3 k4 k5⟩
      · rename_i t x y ho
        split at h
        · rename_i a1 x1 h1 h2
          obtain ⟨v, d, hs, hk⟩ := storeW_elim h
          exact plain v d (by simp only [aop, ho, h1, h2, hs]) hk
        · exact h.elim
      · rename_i t x ho
        split at h
        · rename_i x1 h1
          obtain ⟨cs, hs, hk⟩ := boxW_elim h
          exact plain _ _ (by simp only [aop, ho, h1, Option.bind_some, hs]) hk
        · exact h.elim
      · rename_i t x y yt ho
        cases hq : (isSlT P t && isNilC y) with
        | false =>
          rw [hq] at h
          obtain ⟨v, ha, hk⟩ := opP_elim h
          exact plain v [] ha hk
        | true =>
          rw [hq] at h
          simp only [Bool.and_eq_true] at hq
          obtain ⟨e0, hu⟩ := isSlT_eq hq.1
          have hy := isNilC_eq hq.2
          subst hy
          simp only [cond_true] at h
          split at h
          · rename_i x1 h1
            have hx := rho_rel (c := c) (a := a) sr.gl (fun t _ => sr.e t) h1
            obtain ⟨a1, n1, cap1, hv, hk⟩ := nilK_real h hx
            have hrun : (execOp a.eval o).run P c.w = .ok (.value (.bool a1.isNone)) c.w := by
              have e1 : a.eval (.const (.slice none 0 0)) = .slice none 0 0 := rfl
              have e2 := run_equal_slice (P := P) hu (a := a1) (b := none) (k := n1) (q := cap1) (k' := 0) (q' := 0) (.inr rfl) c.w
              simp only [Option.isNone_none, Bool.and_true] at e2
              simp [execOp, ho, hv, e1, eqGuard, binOp, e2]
            unfold Oper.wp
            rw [hrun]
            exact fin (c.tick s.nx) _ _ _ _ hk (.sc _ rfl) (tick_step c _) (tick_good sr.g _) sr.m (fun id h => by
              rcases h with h | rfl
              · exact Nat.lt_succ_of_lt (sr.al id h)
              · exact Nat.lt_succ_self _)
          · exact h.elim
      · rename_i t x y yt ho
        cases hq : (isSlT P t && isNilC y) with
        | false =>
          rw [hq] at h
          obtain ⟨v, ha, hk⟩ := opP_elim h
          exact plain v [] ha hk
        | true =>
          rw [hq] at h
          simp only [Bool.and_eq_true] at hq
          obtain ⟨e0, hu⟩ := isSlT_eq hq.1
          have hy := isNilC_eq hq.2
          subst hy
          simp only [cond_true] at h
          split at h
          · rename_i x1 h1
            have hx := rho_rel (c := c) (a := a) sr.gl (fun t _ => sr.e t) h1
            obtain ⟨a1, n1, cap1, hv, hk⟩ := nilK_real h hx
            have hrun : (execOp a.eval o).run P c.w = .ok (.value (.bool (!a1.isNone))) c.w := by
              have e1 : a.eval (.const (.slice none 0 0)) = .slice none 0 0 := rfl
              have e2 := run_equal_slice (P := P) hu (a := a1) (b := none) (k := n1) (q := cap1) (k' := 0) (q' := 0) (.inr rfl) c.w
              simp only [Option.isNone_none, Bool.and_true] at e2
              simp [execOp, ho, hv, e1, eqGuard, binOp, e2]
            unfold Oper.wp
            rw [hrun]
            exact fin (c.tick s.nx) _ _ _ _ hk (.sc _ rfl) (tick_step c _) (tick_good sr.g _) sr.m (fun id h => by
              rcases h with h | rfl
              · exact Nat.lt_succ_of_lt (sr.al id h)
              · exact Nat.lt_succ_self _)
          · exact h.elim
      · cases hwr : isWr o.op with
        | true =>
          rw [hwr] at h
          obtain ⟨v, d, ha, hk⟩ := opM_elim h
          exact plain v d ha hk
        | false =>
          rw [hwr] at h
          obtain ⟨v, ha, hk⟩ := opP_elim h
          exact plain v [] ha hk
    · rename_i hw
      rw [wanted_ok (fun t _ _ _ _ => sr.e t) hw]
      simp only [Bool.false_eq_true, if_false]
      obtain ⟨e', hput, hrest⟩ := putK_elim h
      have sr1 : SR K.gl B nt c ⟨e', s.m, s.nx⟩ (a.put o.dst undef) := ⟨sr.g, putD_rel hput sr.sz sr.e (.tup .nil), sr.m, sr.al, put_size.trans sr.sz, put_defers.trans sr.df, sr.gl⟩
      have := WS_ok hn r (pre ++ [o]) hops' (by simpa using hrest) sr1 st
      simpa using this
    · exact h.elim

/- regions that draw their order -/
def Trace (P : Program) (K : Cfg) (nt : Nat) (ops : Array Oper) (l : List Oper) (s s' : St) (rs rs' : List Rec) : Prop :=
  ∃ (S : Nat → St) (v : Nat → AV) (rc : Nat → Rec) (l' : List Rec), S 0 = s ∧ S l.length = s' ∧ rs' = rs ++ l' ∧ l'.length = l.length ∧ (∀ i, i < l.length → l'[i]? = some (rc i)) ∧ ∀ i o, l[i]? = some o → Stp P K nt ops o (S i) (S (i + 1)) (v i) (rc i)
theorem Trace.nil {s : St} {rs : List Rec} : Trace P K nt ops [] s s rs rs := ⟨fun _ => s, fun _ => .und, fun _ => ⟨[], []⟩, [], rfl, rfl, by simp, rfl, fun i hi => by simp at hi, fun i o h => by simp at h⟩
theorem Trace.cons {o : Oper} {r : List Oper} {s s1 s' : St} {rs rs' : List Rec} {v0 : AV} {r0 : Rec} (hst : Stp P K nt ops o s s1 v0 r0) (h : Trace P K nt ops r s1 s' (rs ++ [r0]) rs') : Trace P K nt ops (o :: r) s s' rs rs' := by
  obtain ⟨S, v, rc, l', h1, h2, h3, h4, h5, h6⟩ := h
  refine ⟨fun i => match i with | 0 => s | i + 1 => S i, fun i => match i with | 0 => v0 | i + 1 => v i, fun i => match i with | 0 => r0 | i + 1 => rc i, r0 :: l', rfl, by simpa using h2, by rw [h3]; simp, by simp [h4], fun i hi => ?_, fun i o' ho => ?_⟩
  · cases i with
    | zero => rfl
    | succ i => simpa using h5 i (by simpa using hi)
  · cases i with
    | zero =>
      simp only [List.getElem?_cons_zero, Option.some.injEq] at ho
      subst ho
      show Stp P K nt ops o s (S 0) v0 r0
      rw [h1]; exact hst
    | succ i => exact h6 i o' (by simpa using ho)
theorem mget_fst {m : Mem} {id : Nat} {b : ABlk} (h : mget m id = some b) : id ∈ m.map (·.1) := by
  induction m with
  | nil => simp [mget] at h
  | cons p r ih =>
    obtain ⟨j, v⟩ := p
    unfold mget at h
    cases hj : Nat.beq j id with
    | true => simp [beq_true hj]
    | false => rw [hj] at h; simp [ih h]
theorem look_all (m : Mem) : look' m (m.map (·.1)) = mget m := by
  funext id
  unfold look'
  cases h : (m.map (·.1)).contains id with
  | true => rfl
  | false =>
    simp only [cond_false]
    cases hm : mget m id with
    | none => rfl
    | some b => have := mget_fst hm; simp at h; simp at this; exact absurd this (by simpa using h)
theorem WQ_trace {R : St → Prop} : ∀ (l : List Oper) (i : Nat) {s : St} (rs : List Rec), WQ P K nt ops l i s R → ∃ s' rs', R s' ∧ Trace P K nt ops l s s' rs rs' ∧ ∀ q ∈ rs', q ∈ rs ∨ q.d = []
  | [], i, s, rs, h => ⟨s, rs, h, .nil, fun q hq => .inl hq⟩
  | o :: r, i, s, rs, h => by
    unfold WQ at h
    split at h
    · rename_i hw
      have fin : ∀ v : AV, OpSem P K.gl s.e (mget s.m) s.nx o v [] → (expS 4 (resShape P o) v fun v => splitG (isG ops i) v fun v => putK nt s.e o.dst v fun e => WQ P K nt ops r (i + 1) ⟨e, s.m, s.nx + 1⟩ R) → ∃ s' rs', R s' ∧ Trace P K nt ops (o :: r) s s' rs rs' ∧ ∀ q ∈ rs', q ∈ rs ∨ q.d = [] := by
        intro v ho hk
        obtain ⟨e', hput, hrest⟩ := putK_elim (splitG_elim (expS_elim 4 _ _ _ hk))
        obtain ⟨s', rs', h1, h2, h3⟩ := WQ_trace r (i + 1) (rs ++ [⟨[], s.m.map (·.1)⟩]) hrest
        refine ⟨s', rs', h1, .cons ⟨.inl ⟨hw, by rw [look_all]; exact ho⟩, hput, fun _ => rfl, rfl⟩ h2, fun q hq => ?_⟩
        rcases h3 q hq with h | h
        · rcases List.mem_append.1 h with h | h
          · exact .inl h
          · simp at h; exact .inr (by rw [h])
        · exact .inr h
      unfold opQ at h
      split at h
      · rename_i gg args ats ho
        obtain ⟨f, caps, l, h1, h2, v, ⟨hp, hc⟩, hk⟩ := fnArgs_elim h
        exact fin v (OpSem.pure ho h1 h2 hp fun B c vals g hgl hn hl hr => (hc B c vals g hgl hl hr).mono fun _ _ h => h.toD) hk
      · obtain ⟨v, ha, hk⟩ := opP_elim h
        exact fin v (OpSem.aop ha) hk
    · rename_i hw
      obtain ⟨e', hput, hrest⟩ := putK_elim h
      obtain ⟨s', rs', h1, h2, h3⟩ := WQ_trace r (i + 1) (rs ++ [⟨[], []⟩]) hrest
      refine ⟨s', rs', h1, .cons (s1 := ⟨e', s.m, s.nx + 1⟩) (r0 := ⟨[], []⟩) ⟨.inr ⟨hw, rfl, rfl⟩, hput, fun _ => rfl, rfl⟩ h2, fun q hq => ?_⟩
      rcases h3 q hq with h | h
      · rcases List.mem_append.1 h with h | h
        · exact .inl h
        · simp at h; exact .inr (by rw [h])
      · exact .inr h
    · exact h.elim
theorem WF_trace {ms : List Nat} {R : St → Prop} : ∀ (l : List Oper) (i : Nat) {s : St} (rs : List Rec), WF P K nt ops ms l i s rs R → ∃ s' rs', R s' ∧ Trace P K nt ops l s s' rs rs' ∧ confOk ms rs' = true
  | [], i, s, rs, h => by
    obtain ⟨h1, h2⟩ := chk_elim h
    exact ⟨s, rs, h2, .nil, h1⟩
  | o :: r, i, s, rs, h => by
    unfold WF at h
    split at h
    · rename_i hw
      have fin : ∀ (v : AV) (d : Wr) (ft : List Nat), OpSem P K.gl s.e (look' s.m ft) s.nx o v d → (expS 4 (resShape P o) v fun v => splitG (isG ops i) v fun v => putK nt s.e o.dst v fun e => WF P K nt ops ms r (i + 1) ⟨e, mpushs s.m d, s.nx + 1⟩ (rs ++ [⟨d, ft⟩]) R) → ∃ s' rs', R s' ∧ Trace P K nt ops (o :: r) s s' rs rs' ∧ confOk ms rs' = true := by
        intro v d ft ho hk
        obtain ⟨e', hput, hrest⟩ := putK_elim (splitG_elim (expS_elim 4 _ _ _ hk))
        obtain ⟨s', rs', h1, h2, h3⟩ := WF_trace r (i + 1) _ hrest
        exact ⟨s', rs', h1, .cons ⟨.inl ⟨hw, ho⟩, hput, mget_mpushs _ _, rfl⟩ h2, h3⟩
      unfold opF at h
      split at h
      · rename_i gg args ats ho
        obtain ⟨f, caps, l, h1, h2, v, d, ft, ⟨hp, hc⟩, hk⟩ := fnArgs_elim h
        exact fin v d ft (OpSem.pure ho h1 h2 hp hc) hk
      · rename_i t x y ho
        split at h
        · rename_i a1 x1 h1 h2
          obtain ⟨v, d, hs, hk⟩ := storeW_elim h
          exact fin v d _ (OpSem.aop (by simp only [aop, ho, h1, h2, hs])) hk
        · exact h.elim
      · rename_i t x ho
        split at h
        · rename_i x1 h1
          obtain ⟨cs, hs, hk⟩ := boxW_elim h
          exact fin _ _ _ (OpSem.aop (by simp only [aop, ho, h1, Option.bind_some, hs])) hk
        · exact h.elim
      · obtain ⟨v, d, ha, hk⟩ := opM_elim h
        exact fin v d _ (OpSem.aop ha) hk
    · rename_i hw
      obtain ⟨e', hput, hrest⟩ := putK_elim h
      obtain ⟨s', rs', h1, h2, h3⟩ := WF_trace r (i + 1) _ hrest
      exact ⟨s', rs', h1, .cons (s1 := ⟨e', s.m, s.nx + 1⟩) (r0 := ⟨[], []⟩) ⟨.inr ⟨hw, rfl, rfl⟩, hput, fun _ => rfl, rfl⟩ h2, h3⟩
    · exact h.elim
theorem confOk_quiet {ms : List Nat} {rs : List Rec} (h : ∀ q ∈ rs, q.d = []) : confOk ms rs = true := by
  unfold confOk
  refine List.all_eq_true.2 fun p hp => ?_
  have : p.1 ∈ rs := by
    obtain ⟨q, i⟩ := p
    exact List.mem_of_getElem? (List.mem_zipIdx_iff_getElem?.1 hp)
  simp [h p.1 this]
theorem WR_ok (hm : P.follows .mixedOrders = true) {d : Bool} {id : Nat} {s : St} {R : St → Prop} (h : WR P K nt ops d s R) : Tri P K nt n0 (.region id ops d) s (fun x s => x = .normal ∧ R s) := by
  intro B c0 cx a sr st hn
  unfold WR at h
  cases d with
  | false =>
    simp only [cond_false] at h
    refine wp_region ?_
    have := WS_ok (R := R) hn ops.toList [] (by simp) h sr st
    simpa [List.range_eq_range'] using this
  | true =>
    simp only [cond_true] at h
    obtain ⟨h1, h2⟩ := chk_elim h
    have ⟨s', rs, hR, ⟨S, v, rc, l', a1, a2, a3, a4, a5, a6⟩, hconf⟩ : ∃ s' rs', R s' ∧ Trace P K nt ops ops.toList s s' [] rs' ∧ confOk (masks ops.toList []) rs' = true := by
      cases hw : ops.toList.any (fun o => isWr o.op) with
      | true =>
        rw [hw] at h2
        exact WF_trace ops.toList 0 [] h2
      | false =>
        rw [hw] at h2
        obtain ⟨s', rs', b1, b2, b3⟩ := WQ_trace ops.toList 0 [] h2
        exact ⟨s', rs', b1, b2, confOk_quiet fun q hq => (b3 q hq).elim (fun h => by simp at h) (fun h => h)⟩
    have D := draw_mk h1 a1 a2 a3 a4 a5 a6 hconf
    exact draw_run hm D sr fun c' a' sr' st' => ⟨.normal, s', c', rfl, ⟨rfl, hR⟩, sr', rfl, st.trans st'⟩
theorem thenQ_of {x : AExit} {s : St} {R : St → Prop} {Q : AExit → St → Prop} (h : x = .normal ∧ R s) (hR : ∀ s, R s → Q .normal s) : Q x s := by obtain ⟨rfl, h⟩ := h; exact hR s h
theorem W_ok (hm : P.follows .mixedOrders = true) : ∀ (c : Code) (s : St) (Q : AExit → St → Prop), W P K nt n0 c s Q → Tri P K nt n0 c s Q
  | .skip, s, Q, h => .skip h
  | .region id ops d, s, Q, h => (WR_ok hm h).mono fun x s h => thenQ_of h fun s h => h
  | .seq a b, s, Q, h => .seq ((W_ok hm a s _ h).mono fun x s' h => by
      cases x with
      | normal => exact W_ok hm b s' Q h
      | exit i => exact h
      | ret => exact h)
  | .cond c a b, s, Q, h => by
    unfold W at h
    split at h
    · rename_i v hv
      obtain ⟨b', rfl, h1, h2⟩ := spl_elim h
      exact .cond hv (fun e => W_ok hm a s Q (h1 e)) (fun e => W_ok hm b s Q (h2 e))
    · exact h.elim
  | .block id b, s, Q, h => .block (W_ok hm b s _ h)
  | .loop b, s, Q, h => h
  | .exit i, s, Q, h => .exit h
  | .ret, s, Q, h => .ret h
  | .label l, s, Q, h => .label h
  | .rangeFunc .., s, Q, h => by simp [W] at h
  | .scope .., s, Q, h => by simp [W] at h
  | .goto .., s, Q, h => by simp [W] at h
  | .refuse .., s, Q, h => by simp [W] at h
end
end Go.Proofs.Ytfhcciepaangiaa
