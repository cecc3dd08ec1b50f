/- Rules: functions, calls, loops, states that say less. -/
import Derived.Test.YtfhcciepaangiaaPi20
set_option linter.unusedVariables false
set_option linter.unusedSimpArgs false
namespace Go.Proofs.Ytfhcciepaangiaa
open Go.RowKit

/- a value said with less -/
mutual
def norm : AV → AV
  | .nils => .lst 0 [] false
  | .lst n cs _ => .lst n (norms cs) false
  | .agg cs => .agg (norms cs)
  | .tup cs => .tup (norms cs)
  | .ept cs off => .ept (norms cs) off
  | .fn f cs => .fn f (norms cs)
  | x => x
def norms : List AV → List AV
  | [] => []
  | x :: xs => norm x :: norms xs
end
mutual
theorem norm_rel {c : Cx} {x : AV} {v : Value} : VRel c x v → VRel c (norm x) v
  | .und v => .und v
  | .sc v h => .sc v h
  | .agg h => .agg (norms_rel h)
  | .tup h => .tup (norms_rel h)
  | .nilp => .nilp
  | .ptr h off => .ptr h off
  | .ept hb h hc off => .ept hb (norms_rel h) hc off
  | .nils => .lst0 none 0 false (fun h => by cases h) (Nat.zero_le _) (fun _ => rfl)
  | .lst0 a cap ex he hm hn => .lst0 a cap false (fun h => by cases h) hm hn
  | .lst hb h hc hn he hm => .lst hb (norms_rel h) hc hn (fun h => by cases h) hm
  | .sl h hb hs hn hc he hm => .sl h hb hs hn hc he hm
  | .fn f h => .fn f (norms_rel h)
theorem norms_rel {c : Cx} {xs : List AV} {vs : List Value} : Rels c xs vs → Rels c (norms xs) vs
  | .nil => .nil
  | .cons h t => .cons (norm_rel h) (norms_rel t)
end
section
variable {P : Program} {K : Cfg} {gl : Nat → Option (List AV)}
/- what a run of its own hands back -/
def Own (P : Program) (gl : Nat → Option (List AV)) (f : FuncId) (args : List AV) (R : AV → Mem → Prop) : Prop :=
  Plainly P f ∧ ∀ (B : Nat) (c : Cx) (vals : List Value), Good B c → GlobOk gl c → (∀ id, c.M id = none) → (∀ id, ¬ c.al id) → Rels c args vals → Calls P f vals.toArray c.w (fun e w' => ∃ u m nx, R u m ∧ CallPost B c u m nx e w')
theorem own_of_W (hm : P.follows .mixedOrders = true) {f : FuncId} {fn : Func} {code : Code} (hf : P.funcs[f]? = some fn) (hb : fn.body = some code) (hn : (fn.name == "runtime.NumGoroutine") = false) {args : List AV} (hl : Nat.ble args.length fn.ntmps = true) {R : AV → Mem → Prop}
    (h : W P K fn.ntmps 0 code ⟨initEnv args 0, [], 0⟩ (retQ P fn R)) : Own P K.gl f args R := by
  refine ⟨⟨fn, code, hf, hb, hn⟩, fun B c vals g hgl hM ha hr => ?_⟩
  have tri : Tri P K fn.ntmps 0 code ⟨initEnv args 0, [], 0⟩ (fun x s => (x = .normal ∨ x = .ret) ∧ ∃ v, aResults P fn s = some v ∧ R v s.m) := (W_ok hm code _ _ h).mono fun x s hq => by
    cases x with
    | normal =>
      simp only [retQ] at hq
      split at hq
      · rename_i v hv; exact ⟨.inl rfl, v, hv, hq⟩
      · exact hq.elim
    | ret =>
      simp only [retQ] at hq
      split at hq
      · rename_i v hv; exact ⟨.inr rfl, v, hv, hq⟩
      · exact hq.elim
    | exit i => exact hq.elim
  exact (calls_of_tri (R := fun v m' _ => R v m') hf hb (Nat.le_of_ble_eq_true hl) tri g hgl (fun id => by rw [hM]; rfl) (fun id h => absurd h (ha id)) hr).mono fun e w' ⟨v, m', nx', h1, h2⟩ => ⟨v, m', nx', h1, h2⟩
theorem own_of_F (hm : P.follows .mixedOrders = true) {f : FuncId} {fn : Func} {code : Code} (hf : P.funcs[f]? = some fn) (hb : fn.body = some code) (hn : (fn.name == "runtime.NumGoroutine") = false) {args : List AV} (hl : Nat.ble args.length fn.ntmps = true) {R : AV → Mem → Prop} {X : Prop}
    (hX : W P K fn.ntmps 0 code ⟨initEnv args 0, [], 0⟩ (retQ P fn R) = X) (h : X) : Own P K.gl f args R := own_of_W hm hf hb hn hl (hX.mpr h)
theorem Own.mono {f : FuncId} {args : List AV} {R R' : AV → Mem → Prop} (h : Own P gl f args R) (hr : ∀ v m, R v m → R' v m) : Own P gl f args R' :=
  ⟨h.1, fun B c vals g hgl hM ha hr' => (h.2 B c vals g hgl hM ha hr').mono fun e w' ⟨u, m, nx, h1, h2⟩ => ⟨u, m, nx, hr u m h1, h2⟩⟩
/- the answer, with its memory at rest -/
def Ans (v : AV) (u : AV) (m : Mem) : Prop := (freeze (mget m) 6 u).map norm = some v
theorem PureAt.any {f : FuncId} {args : List AV} {v : AV} (h : PureAt P gl (fun _ => none) f args v) (look : Nat → Option ABlk) : PureAt P gl look f args v :=
  ⟨h.1, fun B c vals g hgl _ hr => h.2 B c vals g hgl (fun _ _ h => by cases h) hr⟩
theorem says_of_own {f : FuncId} {args : List AV} {v : AV} (hc : cleans args = true) (hv : clean v = true) (h : Own P gl f args (Ans v)) : Says P gl f args v := by
  refine ⟨hc, hv, h.1, fun B c vals g hgl _ hr => ?_⟩
  have hBs := g.hB
  have hno : ∀ b, (c.own b ∨ c.no b) → b < c.w.heap.size := by
    rintro b (⟨id, blk, h1, h2⟩ | h)
    · rw [← h2]; exact g.lt h1
    · have := g.nol b h; omega
  have hst : ∀ b, c.stable b → (c.alone fun b => c.own b ∨ c.no b).stable b := fun b ⟨h1, h2, h3⟩ => ⟨h1, alone_own, fun h => h.elim h2 h3⟩
  refine (h.2 c.w.heap.size (c.alone fun b => c.own b ∨ c.no b) vals (alone_good hno) (GlobOk.clean_to (c := c) rfl hst hgl) (fun _ => rfl) (fun _ h => h) (Rels.clean_to (c := c) (c0 := c.alone fun b => c.own b ∨ c.no b) rfl hst hr hc)).mono ?_
  rintro e w' ⟨u, m, nx, hans, u', c0, rfl, rfl, k1, k2, k3, k4, k5⟩
  obtain ⟨v', hv', rfl⟩ := Option.map_eq_some_iff.1 hans
  refine ⟨u', { c with w := c0.w }, rfl, rfl, norm_rel ?_, alone_step g k2, alone_back g k2, fun _ => rfl, fun _ => Iff.rfl⟩
  refine freeze_rel (c' := { c with w := c0.w }) k3 rfl ?_ ?_ (fun id b h => by rw [k4]; exact h) 6 k1 hv'
  · rintro b ⟨h1, h2, h3⟩
    refine ⟨h1, fun ho => h3 ((k2.no b).2 (.inl ho)), fun hn => h3 ((k2.no b).2 (.inr hn))⟩
  · rintro b ⟨id, blk, h1, h2⟩
    have hlow := (k3.low id blk h1).1
    refine ⟨by rw [← h2]; exact k3.lt h1, ?_, fun hn => ?_⟩
    · rintro ⟨id', blk', h1', h2'⟩
      have := g.lt h1'
      have e2 : c.f id' = b := h2'
      omega
    · have : b < B := g.nol b hn
      omega
/- arguments in memory that is only read -/
theorem pure_snap {look : Nat → Option ABlk} {f : FuncId} {args ar : List AV} {v : AV} (ha : mapO (snap look 6) args = some ar) (h : Says P gl f ar v) (hs : scalarRes v = true) : PureAt P gl look f args v := by
  refine ⟨h.2.2.1, fun B c vals g hgl hl hr => ?_⟩
  have hBs := g.hB
  have hst : ∀ b, c.stable b → (c.alone c.no).stable b := fun b ⟨h1, h2, h3⟩ => ⟨h1, alone_own, h3⟩
  have hso : ∀ b, c.own b → (c.alone c.no).stable b := by
    rintro b ⟨id, blk, h1, h2⟩
    have hlow := (g.low id blk h1).1
    have hlt := g.lt h1
    refine ⟨by show b < c.w.heap.size; omega, alone_own, fun hn => ?_⟩
    have : b < B := g.nol b hn
    omega
  have hrr : Rels (c.alone c.no) ar vals := mapO_rel (fun z _ u y r h => snap_rel (c := c) (c0 := c.alone c.no) g rfl hst hso hl 6 r h) hr ha
  refine (h.2.2.2 c.w.heap.size (c.alone c.no) vals (alone_good fun b hb => by have := g.nol b hb; omega) (GlobOk.clean_to (c := c) rfl hst hgl) (fun _ _ h => by cases h) hrr).mono ?_
  rintro e w' ⟨u', c0, rfl, rfl, k1, k2, k3, k4, k5⟩
  exact ⟨u', { c with w := c0.w }, rfl, rfl, scalar_rel hs k1, alone_step g k2, alone_back g k2, fun _ => rfl, fun _ => Iff.rfl⟩
theorem Says.at {f : FuncId} {args : List AV} {v : AV} (h : Says P gl f args v) (look : Nat → Option ABlk) : PureAt P gl look f args v := h.2.2.any look
theorem callW_pure {m : Mem} {nx : Nat} {f : FuncId} {args : List AV} {v : AV} {k : AV → Mem → Prop} (h : PureAt P gl (mget m) f args v) (hk : k v m) : callW P gl m nx f args k :=
  ⟨h.1, fun B c vals g hgl hM ha hr => (h.2 B c vals g hgl (fun id b hb => by rw [hM]; exact hb) hr).mono fun e w' ⟨v', c', h1, h2, h3, h4, h5, h6, h7⟩ =>
    ⟨v, m, hk, v', c', h1, h2, h3, h4, h5, fun id => by rw [h6, hM], fun id h => by have := ha id ((h7 id).1 h); omega⟩⟩
theorem callW_says {m : Mem} {nx : Nat} {f : FuncId} {args : List AV} {v : AV} {k : AV → Mem → Prop} (h : Says P gl f args v) (hk : k v m) : callW P gl m nx f args k := callW_pure (h.at _) hk
theorem callQ_says {m : Mem} {f : FuncId} {args : List AV} {v : AV} {k : AV → Prop} (h : Says P gl f args v) (hk : k v) : callQ P gl m f args k := ⟨v, h.at _, hk⟩
theorem callQ_pure {m : Mem} {f : FuncId} {args : List AV} {v : AV} {k : AV → Prop} (h : PureAt P gl (mget m) f args v) (hk : k v) : callQ P gl m f args k := ⟨v, h, hk⟩
theorem callF_says {m : Mem} {n : Nat} {f : FuncId} {args : List AV} {v : AV} {k : AV → Wr → List Nat → Prop} (h : Says P gl f args v) (hk : k v [] []) : callF P gl m n f args k := ⟨v, [], [], (h.at _).toD, hk⟩
/- functions that make a slice -/
def MadeSl (off esz k cap : Nat) (ex : Bool) (b : ABlk) (u : AV) (m : Mem) : Prop := ∃ id, u = .sl id off esz k cap ex ∧ mget m id = some b
theorem made_of_own {n : Nat} {look : Nat → Option ABlk} {f : FuncId} {args : List AV} {off esz k cap : Nat} {ex : Bool} {b : ABlk} (hc : cleans args = true) (hb : cleans b.cells = true) (h : Own P gl f args (MadeSl off esz k cap ex b)) : PureD P gl look n f args (.sl n off esz k cap ex) [(n, some b)] := by
  refine ⟨h.1, fun B c vals g hgl hn _ hr => ?_⟩
  have hBs := g.hB
  have hno : ∀ b, (c.own b ∨ c.no b) → b < c.w.heap.size := by
    rintro b (⟨id, blk, h1, h2⟩ | h)
    · rw [← h2]; exact g.lt h1
    · have := g.nol b h; omega
  have hst : ∀ b, c.stable b → (c.alone fun b => c.own b ∨ c.no b).stable b := fun b ⟨h1, h2, h3⟩ => ⟨h1, alone_own, fun h => h.elim h2 h3⟩
  refine (h.2 c.w.heap.size (c.alone fun b => c.own b ∨ c.no b) vals (alone_good hno) (GlobOk.clean_to (c := c) rfl hst hgl) (fun _ => rfl) (fun _ h => h) (Rels.clean_to (c := c) (c0 := c.alone fun b => c.own b ∨ c.no b) rfl hst hr hc)).mono ?_
  rintro e w' ⟨u, m, nx, ⟨id, rfl, hm⟩, u', c0, rfl, rfl, k1, k2, k3, k4, k5⟩
  exact made_clean g hn k2 k3 (by rw [k4]; exact hm) hb k1
/- the same, of arguments in memory that is only read -/
theorem made_snap {n : Nat} {look : Nat → Option ABlk} {f : FuncId} {args ar : List AV} {off esz k cap : Nat} {ex : Bool} {b : ABlk} (ha : mapO (snap look 6) args = some ar) (hb : b.cells.all isScA = true) (h : Own P gl f ar (MadeSl off esz k cap ex b)) : PureD P gl look n f args (.sl n off esz k cap ex) [(n, some b)] := by
  refine ⟨h.1, fun B c vals g hgl hn hl hr => ?_⟩
  have hBs := g.hB
  have hst : ∀ b, c.stable b → (c.alone c.no).stable b := fun b ⟨h1, h2, h3⟩ => ⟨h1, alone_own, h3⟩
  have hso : ∀ b, c.own b → (c.alone c.no).stable b := by
    rintro b ⟨id, blk, h1, h2⟩
    have hlow := (g.low id blk h1).1
    have hlt := g.lt h1
    refine ⟨by show b < c.w.heap.size; omega, alone_own, fun hn => ?_⟩
    have : b < B := g.nol b hn
    omega
  have hrr : Rels (c.alone c.no) ar vals := mapO_rel (fun z _ u y r h => snap_rel (c := c) (c0 := c.alone c.no) g rfl hst hso hl 6 r h) hr ha
  refine (h.2 c.w.heap.size (c.alone c.no) vals (alone_good fun b hb => by have := g.nol b hb; omega) (GlobOk.clean_to (c := c) rfl hst hgl) (fun _ => rfl) (fun _ h => h) hrr).mono ?_
  rintro e w' ⟨u, m, nx, ⟨id, rfl, hm⟩, u', c0, rfl, rfl, k1, k2, k3, k4, k5⟩
  exact made_scalar g hn k2 k3 (by rw [k4]; exact hm) hb k1
theorem callW_D {m : Mem} {nx : Nat} {f : FuncId} {args : List AV} {v : AV} {d : Wr} {k : AV → Mem → Prop} (h : PureD P gl (mget m) nx f args v d) (hk : k v (mpushs m d)) : callW P gl m nx f args k :=
  ⟨h.1, fun B c vals g hgl hM ha hr => (h.2 B c vals g hgl (fun h => Nat.lt_irrefl _ (ha _ h)) (fun id b hb => by rw [hM]; exact hb) hr).mono fun e w' ⟨v', c', h1, h2, h3, h4, h5, h6, h7, h8⟩ =>
    ⟨v, mpushs m d, hk, v', c', h1, h2, h3, h4, h5, fun id => by rw [h6, mget_mpushs]; exact upd_congr d hM id, fun id h => by
      rcases h7 id h with h | rfl
      · have := ha id h; omega
      · omega⟩⟩
theorem callF_D {m : Mem} {n : Nat} {f : FuncId} {args : List AV} {v : AV} {d : Wr} (ft : List Nat) {k : AV → Wr → List Nat → Prop} (h : PureD P gl (look' m ft) n f args v d) (hk : k v d ft) : callF P gl m n f args k := ⟨v, d, ft, h, hk⟩

/- states that say less -/
def Weak (K : Cfg) (nt n0 : Nat) (s s0 : St) : Prop := ∀ (B : Nat) (c0 cx : Cx) (a : Act), SR K.gl B nt cx s a → Step c0 cx → (∀ id, c0.al id → id < n0) → ∃ cx', SR K.gl B nt cx' s0 a ∧ Step c0 cx' ∧ cx'.w = cx.w
variable {nt n0 : Nat}
theorem Tri.weak {s s0 : St} {c : Code} {Q : AExit → St → Prop} (hw : Weak K nt n0 s s0) (h : Tri P K nt n0 c s0 Q) : Tri P K nt n0 c s Q := fun B c0 cx a sr st hn => by
  obtain ⟨cx', sr', st', e⟩ := hw B c0 cx a sr st hn
  rw [← e]; exact h B c0 cx' a sr' st' hn
theorem TriN.weak {s s0 : St} {c : Code} {n : Nat} {Q : AExit → St → Prop} (hw : Weak K nt n0 s s0) (h : TriN P K nt n0 c n s0 Q) : TriN P K nt n0 c n s Q := fun B c0 cx a sr st hn => by
  obtain ⟨cx', sr', st', e⟩ := hw B c0 cx a sr st hn
  rw [← e]; exact h B c0 cx' a sr' st' hn
theorem Tri.loops (hm : P.follows .mixedOrders = true) {body : Code} {Q : AExit → St → Prop} {σ : Type} (I : σ → Prop) (st : σ → St) (μ : σ → Nat)
    (step : ∀ x, I x → W P K nt n0 body (st x) (thenQ (fun s' => ∃ y, I y ∧ μ y < μ x ∧ Weak K nt n0 s' (st y)) Q)) : ∀ x, I x → Tri P K nt n0 (.loop body) (st x) Q := by
  have key : ∀ n x, μ x < n → I x → TriN P K nt n0 body n (st x) Q := by
    intro n
    induction n with
    | zero => intro x h; omega
    | succ n ih =>
      intro x hx hI
      refine TriN.succ ((W_ok hm body _ _ (step x hI)).mono fun ex s' h => ?_)
      cases ex with
      | normal =>
        obtain ⟨y, hy, hlt, hw⟩ := h
        exact (ih y (by omega) hy).weak hw
      | exit i => exact h
      | ret => exact h
  exact fun x hI => .loop (key (μ x + 1) x (by omega) hI)

/- other names for the numbers -/
mutual
def ren (π : Nat → Nat) : AV → AV
  | .agg cs => .agg (rens π cs)
  | .tup cs => .tup (rens π cs)
  | .ptr id off => .ptr (π id) off
  | .ept cs off => .ept (rens π cs) off
  | .lst n cs ex => .lst n (rens π cs) ex
  | .sl id off esz n cap ex => .sl (π id) off esz n cap ex
  | .fn f cs => .fn f (rens π cs)
  | x => x
def rens (π : Nat → Nat) : List AV → List AV
  | [] => []
  | x :: xs => ren π x :: rens π xs
end
mutual
theorem ren_clean (π : Nat → Nat) : ∀ {x : AV}, clean x = true → ren π x = x
  | .und, _ => rfl
  | .sc _, _ => rfl
  | .agg cs, h => by simp only [ren]; rw [rens_clean π (by simpa [clean] using h)]
  | .tup cs, h => by simp only [ren]; rw [rens_clean π (by simpa [clean] using h)]
  | .nilp, _ => rfl
  | .ptr .., h => by simp [clean] at h
  | .ept cs off, h => by simp only [ren]; rw [rens_clean π (by simpa [clean] using h)]
  | .nils, _ => rfl
  | .lst n cs ex, h => by simp only [ren]; rw [rens_clean π (by simpa [clean] using h)]
  | .sl .., h => by simp [clean] at h
  | .fn f cs, h => by simp only [ren]; rw [rens_clean π (by simpa [clean] using h)]
theorem rens_clean (π : Nat → Nat) : ∀ {xs : List AV}, cleans xs = true → rens π xs = xs
  | [], _ => rfl
  | x :: xs, h => by
    simp only [cleans, Bool.and_eq_true] at h
    simp only [rens]; rw [ren_clean π h.1, rens_clean π h.2]
end
def Cx.ren (c : Cx) (π : Nat → Nat) (m0 : Mem) : Cx := { w := c.w, f := fun id => c.f (π id), al := fun id => c.al (π id), M := mget m0, no := c.no }
section
variable {c : Cx} {π : Nat → Nat} {m0 : Mem}
theorem ren_stable (ho : ∀ b, (c.ren π m0).own b → c.own b) {b : Nat} (h : c.stable b) : (c.ren π m0).stable b := ⟨h.1, fun h' => h.2.1 (ho b h'), h.2.2⟩
mutual
theorem ren_rel (ho : ∀ b, (c.ren π m0).own b → c.own b) : ∀ {x : AV} {v : Value}, VRel c (Go.Proofs.Ytfhcciepaangiaa.ren π x) v → VRel (c.ren π m0) x v
  | .und, v, _ => .und v
  | .sc u, v, h => by simp only [Go.Proofs.Ytfhcciepaangiaa.ren] at h; cases h with | sc _ hv => exact .sc _ hv
  | .agg cs, v, h => by simp only [Go.Proofs.Ytfhcciepaangiaa.ren] at h; cases h with | agg hr => exact .agg (rens_rel ho hr)
  | .tup cs, v, h => by simp only [Go.Proofs.Ytfhcciepaangiaa.ren] at h; cases h with | tup hr => exact .tup (rens_rel ho hr)
  | .nilp, v, h => by simp only [Go.Proofs.Ytfhcciepaangiaa.ren] at h; cases h; exact .nilp
  | .ptr id off, v, h => by simp only [Go.Proofs.Ytfhcciepaangiaa.ren] at h; cases h with | ptr ha => exact VRel.ptr (c := c.ren π m0) (id := id) ha off
  | .ept cs off, v, h => by simp only [Go.Proofs.Ytfhcciepaangiaa.ren] at h; cases h with | ept hb hr hc off => exact VRel.ept (c := c.ren π m0) (ren_stable ho hb) (rens_rel ho hr) hc off
  | .nils, v, h => by simp only [Go.Proofs.Ytfhcciepaangiaa.ren] at h; cases h; exact .nils
  | .lst n cs ex, v, h => by
    simp only [Go.Proofs.Ytfhcciepaangiaa.ren] at h
    generalize hcs : rens π cs = cs' at h
    cases h with
    | lst0 a cap ex he hm hn =>
      cases cs with
      | nil => exact .lst0 a cap ex he hm hn
      | cons y ys => simp [rens] at hcs
    | lst hb hr hc hn he hm => rw [← hcs] at hr; exact VRel.lst (c := c.ren π m0) (ren_stable ho hb) (rens_rel ho hr) hc hn he hm
  | .sl id off esz n cap ex, v, h => by simp only [Go.Proofs.Ytfhcciepaangiaa.ren] at h; cases h with | sl ha hb hs hn hc he hm => exact VRel.sl (c := c.ren π m0) (id := id) ha hb hs hn hc he hm
  | .fn f cs, v, h => by simp only [Go.Proofs.Ytfhcciepaangiaa.ren] at h; cases h with | fn f hr => exact .fn f (rens_rel ho hr)
theorem rens_rel (ho : ∀ b, (c.ren π m0).own b → c.own b) : ∀ {xs : List AV} {vs : List Value}, Rels c (rens π xs) vs → Rels (c.ren π m0) xs vs
  | [], vs, h => by simp only [rens] at h; cases h; exact .nil
  | x :: xs, vs, h => by simp only [rens] at h; cases h with | cons h1 h2 => exact .cons (ren_rel ho h1) (rens_rel ho h2)
end
end
theorem weak_ren {s : St} {e0 : List (Nat × AV)} {m0 : Mem} {nx0 : Nat} (π : Nat → Nat) (h0 : n0 ≤ nx0) (h1 : ∀ id, id < n0 → π id = id) (h5 : ∀ id, nx0 ≤ id → s.nx ≤ π id)
    (h2 : ∀ t, eget e0 t = .und ∨ eget s.e t = ren π (eget e0 t)) (h3 : ∀ id b, mget m0 id = some b → ∃ b', mget s.m (π id) = some b' ∧ b'.ty = b.ty ∧ b'.cells = rens π b.cells) (h4 : ∀ id id' b b', mget m0 id = some b → mget m0 id' = some b' → π id = π id' → id = id') : Weak K nt n0 s ⟨e0, m0, nx0⟩ := by
  intro B c0 cx a sr st hn
  have hM : ∀ id b, mget m0 id = some b → ∃ b', cx.M (π id) = some b' ∧ b'.ty = b.ty ∧ b'.cells = rens π b.cells := fun id b h => by
    obtain ⟨b', k1, k2⟩ := h3 id b h
    exact ⟨b', by rw [sr.m]; exact k1, k2⟩
  have ho : ∀ b, (cx.ren π m0).own b → cx.own b := by
    rintro b ⟨id, blk, k1, k2⟩
    obtain ⟨b', k3, -⟩ := hM id blk k1
    exact ⟨π id, b', k3, k2⟩
  refine ⟨cx.ren π m0, ⟨⟨sr.g.hB, fun id blk h => ?_, fun id blk h => ?_, sr.g.nol, fun id id' blk blk' h h' hf => ?_⟩, fun t => ?_, fun _ => rfl, fun id h => ?_, sr.sz, sr.df, ?_⟩, ⟨st.os, st.tape, st.output, st.size, st.blk, fun b hb h => st.own b hb (ho b h), fun id h => ?_, fun id h => ?_, st.no, st.shp, st.drawn⟩, rfl⟩
  · obtain ⟨b', k3, -⟩ := hM id blk h
    exact sr.g.low (π id) b' k3
  · obtain ⟨b', k3, k4, k5⟩ := hM id blk h
    obtain ⟨arr, vs, rest, q1, q2, q3⟩ := sr.g.blk (π id) b' k3
    rw [k5] at q3
    exact ⟨arr, vs, rest, by rw [← k4]; exact q1, q2, rens_rel ho q3⟩
  · obtain ⟨b1, k1, -⟩ := hM id blk h
    obtain ⟨b2, k2, -⟩ := hM id' blk' h'
    exact h4 id id' blk blk' h h' (sr.g.inj (π id) (π id') b1 b2 k1 k2 hf)
  · rcases h2 t with h | h
    · show VRel _ (eget e0 t) _
      rw [h]; exact .und _
    · have := sr.e t
      rw [h] at this
      exact ren_rel ho this
  · have k : cx.al (π id) := h
    have := sr.al _ k
    rcases Nat.lt_or_ge id nx0 with h' | h'
    · exact h'
    · have := h5 id h'; omega
  · intro g cs hg
    obtain ⟨k1, k2⟩ := sr.gl g cs hg
    refine ⟨k1, ren_rel ho ?_⟩
    rw [ren_clean π (by simpa [clean] using k1)]
    exact k2
  · have := h1 id (hn id h)
    show cx.f (π id) = c0.f id
    rw [this]; exact st.f id h
  · have := h1 id (hn id h)
    show cx.al (π id)
    rw [this]; exact st.al id h
/- no memory, no numbers -/
def allE (e0 : List (Nat × AV)) (p : Nat → AV → Bool) : Bool := e0.all fun q => p q.1 q.2
theorem eget_mem : ∀ (e : List (Nat × AV)) (t : Nat), eget e t = .und ∨ (t, eget e t) ∈ e
  | [], t => .inl rfl
  | (j, v) :: r, t => by
    unfold eget
    cases h : Nat.beq j t with
    | true => simp only [cond_true]; rw [beq_true h]; exact .inr (by simp)
    | false =>
      simp only [cond_false]
      rcases eget_mem r t with h | h
      · exact .inl h
      · exact .inr (by simp [h])
theorem weak_clean {s : St} {e0 : List (Nat × AV)} {nx0 : Nat} (h0 : n0 ≤ nx0) (h : ∀ p ∈ e0, eget s.e p.1 = p.2 ∧ clean p.2 = true) : Weak K nt n0 s ⟨e0, [], nx0⟩ := by
  refine weak_ren (fun id => if id < n0 then id else s.nx + id) h0 (fun id h => by simp [h]) (fun id h => by rw [if_neg (by omega)]; omega) (fun t => ?_) (fun id b h => by simp [mget] at h) (fun id id' b b' h => by simp [mget] at h)
  rcases eget_mem e0 t with h1 | h1
  · exact .inl h1
  · obtain ⟨k1, k2⟩ := h _ h1
    exact .inr (by rw [ren_clean _ k2]; exact k1)
/- the same, entry by entry -/
def okE (e : List (Nat × AV)) : List (Nat × AV) → Prop
  | [] => True
  | (t, v) :: r => (eget e t = v ∧ clean v = true) ∧ okE e r
theorem okE_all {e : List (Nat × AV)} : ∀ {e0 : List (Nat × AV)}, okE e e0 → ∀ p ∈ e0, eget e p.1 = p.2 ∧ clean p.2 = true
  | [], _, p, hp => by simp at hp
  | (t, v) :: r, h, p, hp => by
    rcases List.mem_cons.1 hp with rfl | hp
    · exact h.1
    · exact okE_all h.2 p hp
theorem weak_of {s : St} {e0 : List (Nat × AV)} {nx0 : Nat} (h0 : Nat.ble n0 nx0 = true) (h : okE s.e e0) : Weak K nt n0 s ⟨e0, [], nx0⟩ := weak_clean (Nat.le_of_ble_eq_true h0) (okE_all h)
theorem okE_cons {e : List (Nat × AV)} {t : Nat} {v : AV} {r : List (Nat × AV)} (h : eget e t = v) (h' : clean v = true) (hr : okE e r) : okE e ((t, v) :: r) := ⟨⟨h, h'⟩, hr⟩
end
end Go.Proofs.Ytfhcciepaangiaa
