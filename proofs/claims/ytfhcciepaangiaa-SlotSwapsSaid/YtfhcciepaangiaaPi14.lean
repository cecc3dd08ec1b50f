/- One operation; regions in the order of the text. -/
import Derived.Test.YtfhcciepaangiaaPi13
set_option linter.unusedVariables false
set_option linter.unusedSimpArgs false
namespace Go.Proofs.Ytfhcciepaangiaa
open Go.RowKit

section
variable {P : Program} {B n : Nat} {c : Cx} {K : Cfg} {cf : CallF} {Q : Exit → Act → World → Prop}

theorem rho_rel {gl : Nat → Option (List AV)} (hgl : GlobOk gl c) {e : List (Nat × AV)} {a : Act} {x : Operand} (he : ∀ t, x = .tmp t → VRel c (eget e t) (a.eval (.tmp t))) {y : AV} (h : rho gl e x = some y) : VRel c y (a.eval x) := by
  cases x with
  | tmp t => simp only [rho, Option.some.injEq] at h; subst h; exact he t rfl
  | const v => exact ofVal_rel h c
  | func f => simp only [rho, Option.some.injEq] at h; subst h; exact .fn f .nil
  | global g =>
    obtain ⟨cs, hc, rfl⟩ := Option.map_eq_some_iff.1 h
    exact (hgl g cs hc).2

/- a call in a world -/
theorem wp_call {o : Oper} {g : Operand} {args : Array Operand} {ats : Array TypeId} (ho : o.op = .call { callee := .value g, args := args, argTypes := ats }) {a : Act} {w : World} {f : FuncId} {vs : List Value} (hg : a.eval g = .func (.func f) #[] vs.toArray) (hp : Plainly P f)
    {R : Ending → World → Prop} (hc : Calls P f ((args.toList.map a.eval) ++ vs).toArray w R) {KK : Act → World → Prop} (hK : ∀ e w', R e w' → ∃ v, e = .returned v ∧ KK (a.put o.dst v) w') : o.wp P a w KK Q := by
  obtain ⟨fn, code, h1, h2, h3⟩ := hp
  have hrun : (execOp a.eval o).run P w = .ok (.enter f ((args.toList.map a.eval) ++ vs).toArray) w := by
    have e1 : args.map a.eval ++ vs.toArray = ((args.toList.map a.eval) ++ vs).toArray := by apply Array.ext'; simp
    have h3' : ¬ fn.name = "runtime.NumGoroutine" := by simpa using h3
    simp [execOp, ho, resolve, hg, Deferred.ofValue, invoke, callFunc, h1, h2, h3', e1]
  unfold Oper.wp
  rw [hrun, Oper.upon_enter]
  refine hc.mono ?_
  intro e w' hR
  obtain ⟨v, rfl, hk⟩ := hK e w' hR
  exact hk

theorem operands_call {o : Oper} {g : Operand} {args : Array Operand} {ats : Array TypeId} (ho : o.op = .call { callee := .value g, args := args, argTypes := ats }) : g ∈ o.op.operands.toList ∧ ∀ x ∈ args.toList, x ∈ o.op.operands.toList := by
  rw [ho]
  simp only [Op.operands, Call.operands]
  refine ⟨by simp, fun x hx => ?_⟩
  simp at hx ⊢
  first | exact .inl hx | exact .inr hx
/- what one operation does, wherever its operands read so -/
def OpSem (P : Program) (gl : Nat → Option (List AV)) (e : List (Nat × AV)) (look : Nat → Option ABlk) (n : Nat) (o : Oper) (v : AV) (d : Wr) : Prop :=
  ∀ (B : Nat) (c : Cx) (a : Act) (KK : Act → World → Prop) (Q : Exit → Act → World → Prop), Good B c → GlobOk gl c → ¬ c.al n → (∀ id b, look id = some b → c.M id = some b) → (∀ x ∈ o.op.operands.toList, ∀ y, rho gl e x = some y → VRel c y (a.eval x)) →
    (∀ c' v', VRel c' v v' → Step c c' → Good B c' → (∀ id, c'.M id = upd c.M d id) → (∀ id, c'.al id → c.al id ∨ id = n) → (∀ id, c.al id → c'.al id) → KK (a.put o.dst v') c'.w) → o.wp P a c.w KK Q
theorem OpSem.pure {e : List (Nat × AV)} {look : Nat → Option ABlk} {o : Oper} {gg : Operand} {args : Array Operand} {ats : Array TypeId} (ho : o.op = .call { callee := .value gg, args := args, argTypes := ats }) {f : FuncId} {caps ar : List AV} (h1 : rho K.gl e gg = some (.fn f caps)) (h2 : opts (rho K.gl e) args.toList = some ar) {v : AV}
    (hp : Plainly P f) {d : Wr} (hcall : ∀ (B : Nat) (c : Cx) (vals : List Value), Good B c → GlobOk K.gl c → ¬ c.al n → (∀ id b, look id = some b → c.M id = some b) → Rels c (ar ++ caps) vals → Calls P f vals.toArray c.w (PurePostD B c n v d)) : OpSem P K.gl e look n o v d := by
  intro B c a KK Q g hgl hn hl hρ hK
  obtain ⟨m1, m2⟩ := operands_call ho
  have hg := hρ gg m1 _ h1
  generalize hgv : a.eval gg = u at hg
  cases hg with
  | fn f hcaps =>
    rename_i vs
    have hargs := opts_rel (ev := a.eval) (fun x hx y hy => hρ x (m2 x hx) y hy) h2
    refine wp_call ho hgv hp (hcall B c _ g hgl hn hl (hargs.append hcaps)) ?_
    rintro e' w' ⟨v', c', rfl, rfl, k1, k2, k3, k4, k5, k6⟩
    exact ⟨v', rfl, hK c' v' k1 k2 k3 k4 k5 k6⟩
theorem OpSem.aop {e : List (Nat × AV)} {look : Nat → Option ABlk} {o : Oper} {v : AV} {d : Wr} (h : aop P (rho K.gl e) look n o = some (v, d)) : OpSem P K.gl e look n o v d := by
  intro B c a KK Q g hgl hn hl hρ hK
  obtain ⟨nx, v', c', r1, r2, r3, r4, r5, r6, r7⟩ := aop_ok (ev := a.eval) g hn hl hρ h
  have := hK c' v' r3 r4 r5 r7 (fun id h => (r6 id).1 h) (fun id h => (r6 id).2 (.inl h))
  unfold Oper.wp
  rw [r1]
  rcases r2 with rfl | ⟨rfl, rfl⟩
  · exact this
  · exact this
theorem opStep_ok (hcf : CallOk P K.gl cf) {dr : Bool} {look : Nat → Option ABlk} {e : List (Nat × AV)} {o : Oper} {v : AV} {d : Wr} (h : opStep P K cf dr e look n o = some (v, d)) : OpSem P K.gl e look n o v d := by
  unfold opStep at h
  split at h
  · rename_i gg args ats ho
    split at h
    · rename_i f caps ar h1 h2
      have pc : pureCall cf look f (ar ++ caps) = some (v, d) → OpSem P K.gl e look n o v d := fun h => by
        obtain ⟨rfl, hp⟩ := pureCall_pre hcf h
        exact OpSem.pure ho h1 h2 hp fun B c vals g hgl hn hl hr => (pureCall_ok hcf g hgl hl hr h).2.2.mono fun _ _ h => h.toD
      cases dr with
      | true =>
        simp only [cond_true] at h
        split at h
        · rename_i r hr'
          simp only [Option.some.injEq] at h
          subst h
          exact OpSem.pure ho h1 h2 (madeCall_pre hcf hr') fun B c vals g hgl hn hl hr => madeCall_ok hcf g hgl hn hl hr hr'
        · exact pc h
      | false =>
        simp only [cond_false] at h
        cases hpm : K.pm f with
        | false => simp [hpm] at h
        | true =>
          simp only [hpm, cond_true] at h
          exact pc h
    · cases h
  · exact OpSem.aop h

structure SR (gl : Nat → Option (List AV)) (B nt : Nat) (c : Cx) (s : St) (a : Act) : Prop where
  g : Good B c
  e : ∀ t, VRel c (eget s.e t) (a.eval (.tmp t))
  m : ∀ id, c.M id = mget s.m id
  al : ∀ id, c.al id → id < s.nx
  sz : a.tmps.size = nt
  df : a.defers = []
  gl : GlobOk gl c
theorem put_eval {a : Act} {d t : Nat} {v : Value} (hd : d < a.tmps.size) : (a.put (some d) v).eval (.tmp t) = if d = t then v else a.eval (.tmp t) := by
  simp only [Act.put, Act.eval, Array.getD_eq_getD_getElem?]
  rw [Array.getElem?_setIfInBounds]
  by_cases h : d = t
  · subst h; simp [hd]
  · simp [h]
theorem put_size {a : Act} {dst : Option Nat} {v : Value} : (a.put dst v).tmps.size = a.tmps.size := by cases dst <;> simp [Act.put]
theorem put_defers {a : Act} {dst : Option Nat} {v : Value} : (a.put dst v).defers = a.defers := by cases dst <;> simp [Act.put]
theorem putD_rel {nt : Nat} {e e' : List (Nat × AV)} {dst : Option Nat} {x : AV} (h : putD nt e dst x = some e') {a : Act} (hs : a.tmps.size = nt) (he : ∀ t, VRel c (eget e t) (a.eval (.tmp t))) {v : Value} (hv : VRel c x v) (t : Nat) : VRel c (eget e' t) ((a.put dst v).eval (.tmp t)) := by
  unfold putD at h
  cases dst with
  | none => simp only [Option.some.injEq] at h; subst h; exact he t
  | some d =>
    simp only [] at h
    cases hd : Nat.blt d nt with
    | false => simp [hd] at h
    | true =>
      simp only [hd, cond_true, Option.some.injEq] at h
      subst h
      have hd' : d < a.tmps.size := by rw [hs]; exact Nat.le_of_ble_eq_true hd
      rw [eget_eput, put_eval hd']
      split
      · exact hv
      · exact he t
theorem wanted_ok {ops : Array Oper} {e : List (Nat × AV)} {o : Oper} {a : Act} (he : ∀ t, (∀ j w, o.guard = some (j, w) → (ops[j]?).bind (·.dst) = some t → VRel c (eget e t) (a.eval (.tmp t)))) {b : Bool} (h : awanted ops e o = some b) : Region.wanted o (yielded ops a.tmps) = b := by
  unfold awanted at h
  unfold Region.wanted
  split at h
  · rename_i hg; simp only [Option.some.injEq] at h; subst h; simp [hg]
  · rename_i j want hg
    split at h
    · rename_i d hd
      have hr := he d j want hg hd
      simp only [hg, yielded, hd, Option.bind_some]
      split at h
      · rename_i q hq
        simp only [Option.some.injEq] at h
        subst h
        rw [hq] at hr
        have ev : a.eval (.tmp d) = .bool q := by generalize a.eval (.tmp d) = u at hr; cases hr; rfl
        simp only [Act.eval, Array.getD_eq_getD_getElem?] at ev
        cases ht : a.tmps[d]? with
        | none => rw [ht] at ev; simp [undef] at ev
        | some u => rw [ht] at ev; simp only [Option.getD_some] at ev; subst ev; simp
      · rename_i q hq
        simp only [Option.some.injEq] at h
        subst h
        rw [hq] at hr
        have ev : ∃ vs, a.eval (.tmp d) = .tuple vs := by generalize a.eval (.tmp d) = u at hr; cases hr; exact ⟨_, rfl⟩
        obtain ⟨vs, ev⟩ := ev
        simp only [Act.eval, Array.getD_eq_getD_getElem?] at ev
        cases ht : a.tmps[d]? with
        | none => simp
        | some u => rw [ht] at ev; simp only [Option.getD_some] at ev; subst ev; simp
      · cases h
    · cases h
theorem evSeq_ok (hcf : CallOk P K.gl cf) {nt : Nat} {ops : Array Oper} : ∀ (rest pre : List Oper) {s s' : St} {c : Cx} {a : Act}, ops.toList = pre ++ rest → evSeq P K cf nt ops rest s = some s' → SR K.gl B nt c s a →
    (∀ c' a', SR K.gl B nt c' s' a' → Step c c' → Q .normal a' c'.w) → wpOps P ops Q (List.range' pre.length rest.length) a c.w
  | [], pre, s, s', c, a, hops, h, sr, hQ => by
    simp only [evSeq, Option.some.injEq] at h
    subst h
    exact hQ c a sr (Step.refl c)
  | o :: r, pre, s, s', c, a, hops, h, sr, hQ => by
    have hget : ops[pre.length]? = some o := by rw [← Array.getElem?_toList, hops]; simp
    have hops' : ops.toList = (pre ++ [o]) ++ r := by rw [hops]; simp
    simp only [List.length_cons, List.range'_succ]
    unfold wpOps
    simp only [hget]
    unfold evSeq at h
    split at h
    · rename_i hw
      rw [wanted_ok (fun t _ _ _ _ => sr.e t) hw]
      simp only [if_true]
      left
      split at h
      · rename_i v m' nx' hop
        split at h
        · rename_i e' hput
          have fin : ∀ c1 v', VRel c1 v v' → Step c c1 → Good B c1 → (∀ id, c1.M id = mget m' id) → (∀ id, c1.al id → id < nx') → wpOps P ops Q (List.range' (pre.length + 1) r.length) (a.put o.dst v') c1.w := by
            intro c1 v' k1 k2 k3 k4 k5
            have sr1 : SR K.gl B nt c1 ⟨e', m', nx'⟩ (a.put o.dst v') := ⟨k3, putD_rel hput sr.sz (fun t => (sr.e t).step k2) k1, k4, k5, put_size.trans sr.sz, put_defers.trans sr.df, sr.gl.step k2⟩
            have := evSeq_ok hcf r (pre ++ [o]) hops' h sr1 (fun c' a' h1 h2 => hQ c' a' h1 (k2.trans h2))
            simpa using this
          unfold evOp at hop
          split at hop
          · rename_i v0 d hst
            simp only [Option.some.injEq, Prod.mk.injEq] at hop
            obtain ⟨rfl, rfl, rfl⟩ := hop
            refine opStep_ok hcf hst B c a _ Q sr.g sr.gl (fun h => Nat.lt_irrefl _ (sr.al _ h)) (fun id b h => by rw [sr.m]; exact h) (fun x _ y hy => rho_rel sr.gl (fun t _ => sr.e t) hy) ?_
            intro c1 v' k1 k2 k3 k4 k5 k6
            exact fin c1 v' k1 k2 k3 (fun id => by rw [k4, mget_mputs]; exact upd_congr d sr.m id) (fun id h => by
              rcases k5 id h with h | rfl
              · exact Nat.lt_succ_of_lt (sr.al id h)
              · exact Nat.lt_succ_self _)
          · unfold callStep at hop
            split at hop
            · rename_i gg args ats ho
              split at hop
              · rename_i f caps ar h1 h2
                obtain ⟨hp, hc⟩ := hcf _ _ _ _ _ _ _ hop
                have hg := rho_rel (c := c) (a := a) sr.gl (fun t _ => sr.e t) h1
                generalize hgv : a.eval gg = u at hg
                cases hg with
                | fn f hcaps =>
                  rename_i vs
                  have hargs := opts_rel (c := c) (ev := a.eval) (fun x _ y hy => rho_rel sr.gl (fun t _ => sr.e t) hy) h2
                  refine wp_call ho hgv hp (hc B c _ sr.g sr.gl sr.m sr.al (hargs.append hcaps)) ?_
                  rintro e2 w' ⟨v', c', rfl, rfl, k1, k2, k3, k4, k5⟩
                  exact ⟨v', rfl, fin c' v' k1 k2 k3 k4 k5⟩
              · cases hop
            · cases hop
        · cases h
      · cases h
    · rename_i hw
      rw [wanted_ok (fun t _ _ _ _ => sr.e t) hw]
      simp only [Bool.false_eq_true, if_false]
      split at h
      · rename_i e' hput
        have sr1 : SR K.gl B nt c ⟨e', s.m, s.nx⟩ (a.put o.dst undef) := ⟨sr.g, putD_rel hput sr.sz sr.e (.tup .nil), sr.m, sr.al, put_size.trans sr.sz, put_defers.trans sr.df, sr.gl⟩
        have := evSeq_ok hcf r (pre ++ [o]) hops' h sr1 hQ
        simpa using this
      · cases h
    · cases h
end
end Go.Proofs.Ytfhcciepaangiaa
