/- Triples: a piece of code, begun in a plain state, ends in plain states that fit. -/
import Derived.Test.YtfhcciepaangiaaPi16
import Derived.LoopN
set_option linter.unusedVariables false
set_option linter.unusedSimpArgs false
namespace Go.Proofs.Ytfhcciepaangiaa
open Go.RowKit

def exOf : AExit → Exit
  | .normal => .normal
  | .exit i => .exit i
  | .ret => .ret
def TPost (K : Cfg) (nt B : Nat) (c0 : Cx) (Q : AExit → St → Prop) (ex : Exit) (a : Act) (w : World) : Prop :=
  ∃ x s c, ex = exOf x ∧ Q x s ∧ SR K.gl B nt c s a ∧ c.w = w ∧ Step c0 c
def Tri (P : Program) (K : Cfg) (nt n0 : Nat) (c : Code) (s : St) (Q : AExit → St → Prop) : Prop :=
  ∀ (B : Nat) (c0 cx : Cx) (a : Act), SR K.gl B nt cx s a → Step c0 cx → (∀ id, c0.al id → id < n0) → c.wp P (TPost K nt B c0 Q) a cx.w
def TriN (P : Program) (K : Cfg) (nt n0 : Nat) (c : Code) (n : Nat) (s : St) (Q : AExit → St → Prop) : Prop :=
  ∀ (B : Nat) (c0 cx : Cx) (a : Act), SR K.gl B nt cx s a → Step c0 cx → (∀ id, c0.al id → id < n0) → Code.rounds P c (TPost K nt B c0 Q) n a cx.w
/- what follows a normal end -/
def thenQ (R : St → Prop) (Q : AExit → St → Prop) : AExit → St → Prop
  | .normal, s => R s
  | x, s => Q x s
def blockQ (id : Nat) (Q : AExit → St → Prop) : AExit → St → Prop
  | .exit j, s => bif Nat.beq j id then Q .normal s else Q (.exit j) s
  | x, s => Q x s
section
variable {P : Program} {K : Cfg} {nt n0 : Nat} {Q Q' : AExit → St → Prop} {s : St}
theorem Tri.mono {c : Code} (h : Tri P K nt n0 c s Q) (hq : ∀ x s, Q x s → Q' x s) : Tri P K nt n0 c s Q' := fun B c0 cx a sr st hn =>
  wp_mono (h B c0 cx a sr st hn) fun _ _ _ ⟨x, s, c, h1, h2, h3⟩ => ⟨x, s, c, h1, hq x s h2, h3⟩
theorem Tri.region (hm : P.follows .mixedOrders = true) {cf : CallF} (hcf : CallOk P K.gl cf) {id : Nat} {ops : Array Oper} {d : Bool} {s' : St} (h : evRegion P K cf nt ops d s = some s') (hQ : Q .normal s') : Tri P K nt n0 (.region id ops d) s Q := fun B c0 cx a sr st hn =>
  region_ok hm hcf h sr fun c' a' sr' st' => ⟨.normal, s', c', rfl, hQ, sr', rfl, st.trans st'⟩
theorem Tri.skip (h : Q .normal s) : Tri P K nt n0 .skip s Q := fun B c0 cx a sr st hn => wp_skip ⟨.normal, s, cx, rfl, h, sr, rfl, st⟩
theorem Tri.label {l : Nat} (h : Q .normal s) : Tri P K nt n0 (.label l) s Q := fun B c0 cx a sr st hn => wp_label ⟨.normal, s, cx, rfl, h, sr, rfl, st⟩
theorem Tri.exit {i : Nat} (h : Q (.exit i) s) : Tri P K nt n0 (.exit i) s Q := fun B c0 cx a sr st hn => wp_exit ⟨.exit i, s, cx, rfl, h, sr, rfl, st⟩
theorem Tri.ret (h : Q .ret s) : Tri P K nt n0 .ret s Q := fun B c0 cx a sr st hn => wp_ret ⟨.ret, s, cx, rfl, h, sr, rfl, st⟩
theorem Tri.seq {x y : Code} (h : Tri P K nt n0 x s (thenQ (fun s' => Tri P K nt n0 y s' Q) Q)) : Tri P K nt n0 (.seq x y) s Q := fun B c0 cx a sr st hn =>
  wp_seq (wp_mono (h B c0 cx a sr st hn) fun ex a' w' ⟨e, s', c', h1, h2, h3, h4, h5⟩ => by
    subst h1; subst h4
    cases e with
    | normal => exact h2 B c0 c' a' h3 h5 hn
    | exit i => exact ⟨.exit i, s', c', rfl, h2, h3, rfl, h5⟩
    | ret => exact ⟨.ret, s', c', rfl, h2, h3, rfl, h5⟩)
theorem Tri.cond {c : Operand} {x y : Code} {t : Bool} (hc : rho K.gl s.e c = some (.sc (.bool t))) (h1 : t = true → Tri P K nt n0 x s Q) (h2 : t = false → Tri P K nt n0 y s Q) : Tri P K nt n0 (.cond c x y) s Q := fun B c0 cx a sr st hn => by
  have hv := rho_rel (c := cx) (a := a) sr.gl (fun t _ => sr.e t) hc
  have he : a.eval c = .bool t := by generalize a.eval c = u at hv; cases hv; rfl
  exact wp_cond_split he (fun ht => h1 ht B c0 cx a sr st hn) (fun ht => h2 ht B c0 cx a sr st hn)
theorem Tri.block {id : Nat} {c : Code} (h : Tri P K nt n0 c s (blockQ id Q)) : Tri P K nt n0 (.block id c) s Q := fun B c0 cx a sr st hn =>
  wp_block (wp_mono (h B c0 cx a sr st hn) fun ex a' w' ⟨e, s', c', h1, h2, h3, h4, h5⟩ => by
    subst h1; subst h4
    cases e with
    | normal => exact ⟨.normal, s', c', rfl, h2, h3, rfl, h5⟩
    | exit j =>
      simp only [exOf, Exit.inBlock]
      simp only [blockQ] at h2
      cases hj : Nat.beq j id with
      | true => rw [hj] at h2; simp only [Nat.eq_of_beq_eq_true hj, if_true]; exact ⟨.normal, s', c', rfl, h2, h3, rfl, h5⟩
      | false => rw [hj] at h2; simp only [Nat.ne_of_beq_eq_false hj, if_false]; exact ⟨.exit j, s', c', rfl, h2, h3, rfl, h5⟩
    | ret => exact ⟨.ret, s', c', rfl, h2, h3, rfl, h5⟩)
theorem Tri.loop {c : Code} {n : Nat} (h : TriN P K nt n0 c n s Q) : Tri P K nt n0 (.loop c) s Q := fun B c0 cx a sr st hn => wp_loop_rounds n (h B c0 cx a sr st hn)
theorem TriN.succ {c : Code} {n : Nat} (h : Tri P K nt n0 c s (thenQ (fun s' => TriN P K nt n0 c n s' Q) Q)) : TriN P K nt n0 c (n + 1) s Q := fun B c0 cx a sr st hn => by
  rw [rounds_succ]
  exact wp_mono (h B c0 cx a sr st hn) fun ex a' w' ⟨e, s', c', h1, h2, h3, h4, h5⟩ => by
    subst h1; subst h4
    cases e with
    | normal => exact h2 B c0 c' a' h3 h5 hn
    | exit i => exact ⟨.exit i, s', c', rfl, h2, h3, rfl, h5⟩
    | ret => exact ⟨.ret, s', c', rfl, h2, h3, rfl, h5⟩

/- the evaluator's code is sound -/
theorem iter_ok {f : St → Option (AExit × St)} {c : Code} (hf : ∀ s x s', f s = some (x, s') → Tri P K nt n0 c s (fun y t => y = x ∧ t = s')) : ∀ (k : Nat) (s : St) (x : AExit) (s' : St), iter f k s = some (x, s') → TriN P K nt n0 c k s (fun y t => y = x ∧ t = s')
  | 0, s, x, s', h => by simp [iter] at h
  | k + 1, s, x, s', h => by
    unfold iter at h
    refine TriN.succ ?_
    split at h
    · rename_i s1 h1
      refine (hf s .normal s1 h1).mono ?_
      rintro y t ⟨rfl, rfl⟩
      exact iter_ok hf k t x s' h
    · rename_i h1
      refine (hf s x s' h).mono ?_
      rintro y t ⟨rfl, rfl⟩
      cases y with
      | normal => exact absurd h (h1 t)
      | exit i => exact ⟨rfl, rfl⟩
      | ret => exact ⟨rfl, rfl⟩
theorem evCode_ok (hm : P.follows .mixedOrders = true) {cf : CallF} (hcf : CallOk P K.gl cf) {k : Nat} : ∀ (c : Code) (s : St) (x : AExit) (s' : St), evCode K (evRegion P K cf nt) k c s = some (x, s') → Tri P K nt n0 c s (fun y t => y = x ∧ t = s')
  | .skip, s, x, s', h => by simp only [evCode, Option.some.injEq, Prod.mk.injEq] at h; exact .skip ⟨h.1, h.2⟩
  | .region id ops d, s, x, s', h => by
    simp only [evCode] at h
    obtain ⟨s1, h1, h2⟩ := Option.map_eq_some_iff.1 h
    simp only [Prod.mk.injEq] at h2
    exact .region hm hcf h1 ⟨h2.1, h2.2⟩
  | .seq a b, s, x, s', h => by
    simp only [evCode] at h
    split at h
    · rename_i s1 h1
      refine .seq ((evCode_ok hm hcf a s .normal s1 h1).mono ?_)
      rintro y t ⟨rfl, rfl⟩
      exact evCode_ok hm hcf b t x s' h
    · rename_i h1
      refine .seq ((evCode_ok hm hcf a s x s' h).mono ?_)
      rintro y t ⟨rfl, rfl⟩
      cases y with
      | normal => exact absurd h (h1 t)
      | exit i => exact ⟨rfl, rfl⟩
      | ret => exact ⟨rfl, rfl⟩
  | .cond c a b, s, x, s', h => by
    simp only [evCode] at h
    split at h
    · rename_i t ht
      refine .cond ht (fun e => ?_) (fun e => ?_)
      · subst e; exact evCode_ok hm hcf a s x s' h
      · subst e; exact evCode_ok hm hcf b s x s' h
    · cases h
  | .block id b, s, x, s', h => by
    simp only [evCode] at h
    split at h
    · rename_i j s1 h1
      simp only [Option.some.injEq, Prod.mk.injEq] at h
      obtain ⟨h2, rfl⟩ := h
      refine .block ((evCode_ok hm hcf b s (.exit j) s1 h1).mono ?_)
      rintro y t ⟨rfl, rfl⟩
      simp only [blockQ]
      cases hj : Nat.beq j id with
      | true => rw [hj] at h2; simpa using h2
      | false => rw [hj] at h2; simpa using h2
    · rename_i h1
      refine .block ((evCode_ok hm hcf b s x s' h).mono ?_)
      rintro y t ⟨rfl, rfl⟩
      cases y with
      | normal => exact ⟨rfl, rfl⟩
      | exit i => exact absurd h (h1 i t)
      | ret => exact ⟨rfl, rfl⟩
  | .loop b, s, x, s', h => by
    simp only [evCode] at h
    exact .loop (iter_ok (fun s x s' h => evCode_ok hm hcf b s x s' h) k s x s' h)
  | .exit i, s, x, s', h => by simp only [evCode, Option.some.injEq, Prod.mk.injEq] at h; exact .exit ⟨h.1, h.2⟩
  | .ret, s, x, s', h => by simp only [evCode, Option.some.injEq, Prod.mk.injEq] at h; exact .ret ⟨h.1, h.2⟩
  | .label l, s, x, s', h => by simp only [evCode, Option.some.injEq, Prod.mk.injEq] at h; exact .label ⟨h.1, h.2⟩
  | .rangeFunc .., s, x, s', h => by simp [evCode] at h
  | .scope .., s, x, s', h => by simp [evCode] at h
  | .goto .., s, x, s', h => by simp [evCode] at h
  | .refuse .., s, x, s', h => by simp [evCode] at h

/- results -/
def oneRes (tmps : Array Value) : ResultVar → Sem Value
  | .tmp t => pure (tmps.getD t undef)
  | .cell x t => do loadVar t (← asAddr (tmps.getD x undef))
theorem result_ok {B : Nat} {c : Cx} {a : Act} (sr : SR K.gl B nt c s a) {r : ResultVar} {v : AV} (h : aResult P s r = some v) :
    ∃ v', (oneRes a.tmps r).run P c.w = .ok v' c.w ∧ VRel c v v' := by
  cases r with
  | tmp t => simp only [aResult, Option.some.injEq] at h; subst h; exact ⟨_, rfl, sr.e t⟩
  | cell x t =>
    simp only [aResult] at h
    obtain ⟨⟨y, d⟩, hy, rfl⟩ := Option.map_eq_some_iff.1 h
    have hx := sr.e x
    have hx : VRel c (eget s.e x) (a.tmps.getD x undef) := hx
    unfold aLoad at hy
    split at hy
    · rename_i id off he
      rw [he] at hx
      generalize hu : a.tmps.getD x undef = u at hx
      cases hx with
      | ptr ha =>
        cases hb : mget s.m id with
        | none => rw [hb] at hy; cases hy
        | some b =>
          rw [hb] at hy
          obtain ⟨y', hy', he'⟩ := Option.map_eq_some_iff.1 hy
          simp only [Prod.mk.injEq] at he'
          obtain ⟨rfl, rfl⟩ := he'
          obtain ⟨arr, vs, rest, -, -, h3, h4⟩ := sr.g.cells (by rw [sr.m]; exact hb)
          obtain ⟨v', hr, hv⟩ := load_ok (w := c.w) h3 h4 hy'
          rw [Nat.zero_add] at hr
          exact ⟨v', by simp only [oneRes, hu, asAddr, Sem.run_bind, Sem.run_pure, Result.andThen_ok, hr], hv⟩
    · rename_i cs off he
      rw [he] at hx
      generalize hu : a.tmps.getD x undef = u at hx
      cases hx with
      | ept hb hrs hc off =>
        obtain ⟨y', hy', he'⟩ := Option.map_eq_some_iff.1 hy
        simp only [Prod.mk.injEq] at he'
        obtain ⟨rfl, rfl⟩ := he'
        obtain ⟨v', hr, hv⟩ := load_ok (w := c.w) hrs hc hy'
        exact ⟨v', by simp only [oneRes, hu, asAddr, Sem.run_bind, Sem.run_pure, Result.andThen_ok, hr], hv⟩
    · cases hy
theorem resultsL_ok {B : Nat} {c : Cx} {a : Act} (sr : SR K.gl B nt c s a) : ∀ (l : List ResultVar) {vs : List AV}, aResultsL P s l = some vs →
    ∃ us, (l.mapM (oneRes a.tmps)).run P c.w = .ok us c.w ∧ Rels c vs us
  | [], vs, h => by simp only [aResultsL, Option.some.injEq] at h; subst h; exact ⟨[], rfl, .nil⟩
  | r :: l, vs, h => by
    unfold aResultsL at h
    cases h1 : aResult P s r with
    | none => simp [h1] at h
    | some v =>
      cases h2 : aResultsL P s l with
      | none => simp [h1, h2] at h
      | some vs' =>
        simp only [h1, h2, Option.some.injEq] at h
        subst h
        obtain ⟨u, hu, hv⟩ := result_ok sr h1
        obtain ⟨us, hus, hvs⟩ := resultsL_ok sr l h2
        refine ⟨u :: us, ?_, .cons hv hvs⟩
        rw [List.mapM_cons]
        simp only [Sem.run_bind]
        rw [hu]
        simp only [Result.andThen_ok]
        rw [hus]
        simp only [Result.andThen_ok, Sem.run_pure]
theorem results_ok {B : Nat} {c : Cx} {a : Act} {fn : Func} (sr : SR K.gl B nt c s a) {v : AV} (h : aResults P fn s = some v) : ∃ v', (results fn a.tmps).run P c.w = .ok v' c.w ∧ VRel c v v' := by
  unfold aResults at h
  have key : ∀ {vs : List AV}, aResultsL P s fn.results.toList = some vs → ∃ us : List Value, (results fn a.tmps).run P c.w = .ok (if h : us.toArray.size = 1 then us.toArray[0] else .tuple us.toArray) c.w ∧ Rels c vs us := by
    intro vs hvs
    obtain ⟨us, hus, hr⟩ := resultsL_ok sr _ hvs
    refine ⟨us, ?_, hr⟩
    have e0 : results fn a.tmps = (do let vs ← fn.results.mapM (oneRes a.tmps); pure (if h : vs.size = 1 then vs[0] else .tuple vs)) := rfl
    rw [e0, Array.mapM_eq_mapM_toList]
    simp only [Sem.run_bind, map_eq_pure_bind, bind_assoc]
    rw [hus]
    simp only [Result.andThen_ok, Sem.run_pure, Sem.run_bind, pure_bind]
  split at h
  · rename_i v0 hv
    simp only [Option.some.injEq] at h
    subst h
    obtain ⟨us, h1, h2⟩ := key hv
    cases h2 with
    | cons h2 t => cases t; exact ⟨_, h1, by simpa using h2⟩
  · rename_i l hne hv
    simp only [Option.some.injEq] at h
    subst h
    obtain ⟨us, h1, h2⟩ := key hv
    refine ⟨_, h1, ?_⟩
    have : ¬ us.toArray.size = 1 := fun e => by
      have hl := h2.length
      have : us.length = 1 := by simpa using e
      rw [this] at hl
      match l, hl, hne, hv with
      | [x], _, hne, hv => exact hne x rfl
    rw [dif_neg this]
    exact .tup h2
  · cases h

/- functions -/
theorem eget_init : ∀ (l : List AV) (i t : Nat), eget (initEnv l i) t = if i ≤ t then l.getD (t - i) .und else .und
  | [], i, t => by simp [initEnv, eget]
  | a :: r, i, t => by
    unfold initEnv eget
    rw [eget_init r (i + 1) t]
    cases h : Nat.beq i t with
    | true => have := beq_true h; subst this; simp
    | false =>
      have := beq_false h
      simp only [cond_false]
      by_cases hlt : i + 1 ≤ t
      · have : t - i = (t - (i + 1)) + 1 := by omega
        rw [if_pos hlt, if_pos (by omega), this]; simp
      · rw [if_neg hlt, if_neg (by omega)]
theorem calls_of_tri {f : FuncId} {fn : Func} {code : Code} (hf : P.funcs[f]? = some fn) (hb : fn.body = some code) {args : List AV} (hl : args.length ≤ fn.ntmps) {m : List (Nat × Option ABlk)} {nx : Nat} {R : AV → List (Nat × Option ABlk) → Nat → Prop}
    (h : Tri P K fn.ntmps nx code ⟨initEnv args 0, m, nx⟩ (fun x s => (x = .normal ∨ x = .ret) ∧ ∃ v, aResults P fn s = some v ∧ R v s.m s.nx)) {B : Nat} {c : Cx} {vals : List Value} (g : Good B c) (gl : GlobOk K.gl c) (hm : ∀ id, c.M id = mget m id) (ha : ∀ id, c.al id → id < nx) (hr : Rels c args vals) :
    Calls P f vals.toArray c.w (fun e w' => ∃ v m' nx', R v m' nx' ∧ CallPost B c v m' nx' e w') := by
  refine calls_of_wp hf hb ?_
  have hlen := hr.length
  have sr : SR K.gl B fn.ntmps c ⟨initEnv args 0, m, nx⟩ { tmps := vals.toArray ++ Array.replicate (fn.ntmps - vals.toArray.size) undef, defers := [] } := by
    refine ⟨g, fun t => ?_, hm, ha, by simp; omega, rfl, gl⟩
    simp only [eget_init, Nat.zero_le, if_true, Nat.sub_zero]
    rcases Nat.lt_or_ge t args.length with h | h
    · obtain ⟨v, hv, hx⟩ := hr.get (k := t) (x := args[t]) (List.getElem?_eq_getElem h)
      have e1 : args.getD t .und = args[t] := by simp [List.getD_eq_getElem?_getD, h]
      rw [e1]
      have : (vals.toArray ++ Array.replicate (fn.ntmps - vals.toArray.size) undef).getD t undef = v := by
        rw [Array.getD_eq_getD_getElem?, Array.getElem?_append_left (by simp; omega)]
        simp [hv]
      simp only [Act.eval, this]
      exact hx
    · have e1 : args.getD t .und = .und := by simp [List.getD_eq_getElem?_getD, h]
      rw [e1]; exact .und _
  refine wp_mono (h B c c _ sr (Step.refl c) ha) ?_
  rintro ex a' w' ⟨x, s, c', rfl, ⟨hx, v, hv, hR⟩, sr', rfl, st⟩
  obtain ⟨v', h1, h2⟩ := results_ok sr' hv
  have post : a'.defers = [] ∧ ∃ v, (results fn a'.tmps).run P c'.w = .ok v c'.w ∧ ∃ v_1 m' nx', R v_1 m' nx' ∧ CallPost B c v_1 m' nx' (.returned v) c'.w :=
    ⟨sr'.df, v', h1, v, s.m, s.nx, hR, v', c', rfl, rfl, h2, st, sr'.g, sr'.m, sr'.al⟩
  rcases hx with rfl | rfl
  · exact post
  · exact post
end
end Go.Proofs.Ytfhcciepaangiaa
