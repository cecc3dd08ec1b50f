/- Functions that make a slice: the caller's own from then on. -/
import Derived.Test.YtfhcciepaangiaaPi27
set_option linter.unusedVariables false
set_option linter.unusedSimpArgs false
namespace Go.Proofs.Ytfhcciepaangiaa
open Go.RowKit

section
variable {α : Type} {E : En α} {P : Program} {K : Cfg} {gl : Nat → Option (List AV)}
/- a slice with the elements l, fresh -/
def MadeO (E : En α) (ty : Nat) (l : List α) (u : AV) (m : Mem) : Prop :=
  (l = [] ∧ (u = .nils ∨ u = .lst 0 [] true ∨ ∃ id off esz, u = .sl id off esz 0 0 true)) ∨ (l ≠ [] ∧ ∃ id cap ex, u = .sl id 0 E.size l.length cap ex ∧ mget m id = some ⟨encs E l, ty⟩)
theorem PurePostD.leV {B : Nat} {c : Cx} {n : Nat} {v v' : AV} {d : Wr} {e : Ending} {w' : World} (h : PurePostD B c n v d e w') (hv : Go.Proofs.Ytfhcciepaangiaa.leV v v') : PurePostD B c n v' d e w' := by
  obtain ⟨x, c', h1, h2, h3, h4⟩ := h
  exact ⟨x, c', h1, h2, hv _ _ h3, h4⟩
theorem leV_sl {id off esz n cap : Nat} {ex : Bool} : leV (.sl id off esz n cap ex) (.sl id off esz n n false) := fun c x h => by
  cases h with
  | sl ha hb hs hn hc he hm => exact .sl ha hb hs (Nat.le_refl _) (Nat.le_trans hn hc) (fun h => by cases h) hm
theorem made_nil {B : Nat} {c : Cx} (g : Good B c) {n : Nat} (hn : ¬ c.al n) {no : Nat → Prop} {c0 : Cx} (st : Step (c.alone no) c0) {u : AV} {v' : Value} (hu : u = .nils ∨ u = .lst 0 [] true ∨ ∃ id off esz, u = .sl id off esz 0 0 true) (hv : VRel c0 u v') : PurePostD B c n (.lst 0 [] true) [(n, none)] (.returned v') c0.w := by
  refine ⟨v', { c with w := c0.w }, rfl, rfl, ?_, alone_step g st, alone_back g st, fun id => ?_, fun id h => .inl h, fun id h => h⟩
  · rcases hu with rfl | rfl | ⟨id, off, esz, rfl⟩
    · cases hv
      exact .lst0 none 0 true (fun _ => rfl) (Nat.zero_le _) (fun _ => rfl)
    · cases hv with
      | lst0 a cap ex he hm hn => exact .lst0 a cap true he hm hn
      | lst hb h hc hn he hm =>
        have := he rfl
        exact .lst0 _ _ true (fun _ => by omega) hm (fun h => by cases h)
    · cases hv with
      | sl ha hb hs hn hc he hm => exact .lst0 _ _ true he hm (fun h => by cases h)
  · show c.M id = upd c.M [(n, none)] id
    simp only [upd]
    by_cases h : id = n
    · subst h
      rw [if_pos rfl]
      cases hM : c.M id with
      | none => rfl
      | some b => exact absurd (g.low id b hM).2 hn
    · rw [if_neg h]
theorem made_ownC {n : Nat} {look : Nat → Option ABlk} {f : FuncId} {args : List AV} {ty : Nat} {l : List α} (hc : cleans args = true) (h : Own P gl f args (MadeO E ty l)) : PureD P gl look n f args (ownV E n l) [(n, ownB E ty l)] := by
  refine ⟨h.1, fun B c vals g hgl hn _ hr => ?_⟩
  have hBs := g.hB
  have hno : ∀ b, (c.own b ∨ c.no b) → b < c.w.heap.size := by
    rintro b (⟨id, blk, h1, h2⟩ | h)
    · rw [← h2]; exact g.lt h1
    · have := g.nol b h; omega
  have hst : ∀ b, c.stable b → (c.alone fun b => c.own b ∨ c.no b).stable b := fun b ⟨h1, h2, h3⟩ => ⟨h1, alone_own, fun h => h.elim h2 h3⟩
  refine (h.2 c.w.heap.size (c.alone fun b => c.own b ∨ c.no b) vals (alone_good hno) (GlobOk.clean_to (c := c) rfl hst hgl) (fun _ => rfl) (fun _ h => h) (Rels.clean_to (c := c) (c0 := c.alone fun b => c.own b ∨ c.no b) rfl hst hr hc)).mono ?_
  rintro e w' ⟨u, m, nx, hm, u', c0, rfl, rfl, k1, k2, k3, k4, k5⟩
  rcases hm with ⟨rfl, hu⟩ | ⟨hne, id, cap, ex, rfl, hb⟩
  · exact made_nil g hn k2 hu k1
  · rw [ownV_ne hne, ownB_ne hne]
    exact (made_clean g hn k2 k3 (by rw [k4]; exact hb) (encs_clean l) k1).leV leV_sl
def ScE (E : En α) : Prop := ∀ x, (E.enc x).all isScA = true
theorem encs_sc (hE : ScE E) (l : List α) : (encs E l).all isScA = true := by
  induction l with
  | nil => rfl
  | cons x l ih => rw [encs_cons, List.all_append, hE x, ih]; rfl
theorem made_ownS {n : Nat} {look : Nat → Option ABlk} {f : FuncId} {args ar : List AV} {ty : Nat} {l : List α} (hE : ScE E) (ha : SnL look 6 args ar) (h : Own P gl f ar (MadeO E ty l)) : PureD P gl look n f args (ownV E n l) [(n, ownB E ty l)] := by
  obtain ⟨us, h1, h2⟩ := snL_map 6 ha
  refine ⟨h.1, fun B c vals g hgl hn hl hr => ?_⟩
  have hBs := g.hB
  have hst : ∀ b, c.stable b → (c.alone c.no).stable b := fun b ⟨h1, h2, h3⟩ => ⟨h1, alone_own, h3⟩
  have hso : ∀ b, c.own b → (c.alone c.no).stable b := by
    rintro b ⟨id, blk, h1, h2⟩
    have hlow := (g.low id blk h1).1
    have hlt := g.lt h1
    refine ⟨by show b < c.w.heap.size; omega, alone_own, fun hn => ?_⟩
    have : b < B := g.nol b hn
    omega
  have hrr : Rels (c.alone c.no) us vals := mapO_rel (fun z _ u y r h => snap_rel (c := c) (c0 := c.alone c.no) g rfl hst hso hl 6 r h) hr h1
  have hrr : Rels (c.alone c.no) ar vals := by rw [← h2]; exact norms_rel hrr
  refine (h.2 c.w.heap.size (c.alone c.no) vals (alone_good fun b hb => by have := g.nol b hb; omega) (GlobOk.clean_to (c := c) rfl hst hgl) (fun _ => rfl) (fun _ h => h) hrr).mono ?_
  rintro e w' ⟨u, m, nx, hm, u', c0, rfl, rfl, k1, k2, k3, k4, k5⟩
  rcases hm with ⟨rfl, hu⟩ | ⟨hne, id, cap, ex, rfl, hb⟩
  · exact made_nil g hn k2 hu k1
  · rw [ownV_ne hne, ownB_ne hne]
    exact (made_scalar g hn k2 k3 (by rw [k4]; exact hb) (encs_sc hE l) k1).leV leV_sl
/- Clone: its text at a list -/
theorem clone_ok {ty sz by_ : Nat} {zs : List AV} {l : List α} {u : Unit} (hs : E.size = sz) (hz : Nat.beq zs.length sz = true) (h : roomO l.length by_ = some u) : nilK (lstA E l) fun b0 =>
    bif b0 then (retL (MadeO E ty l) [] [some AV.nils]) else (
    opN (bsl 3 ty sz 0 zs []) [] fun v2 m2 =>
    opN (app (mget m2) ty sz by_ zs 5 v2 (lstA E l)) m2 fun v3 m3 => retL (MadeO E ty l) m3 [some v3]) := by
  subst hs
  have hp : Nat.ble 1 E.size = true := Nat.ble_eq_true_of_le E.pos
  have hb : bsl 3 ty E.size 0 zs [] = some (.sl 3 0 E.size 0 0 true, [(3, some ⟨[], ty⟩)]) := by
    have h0 : Nat.ble (0 * E.size) 16777216 = true := by rw [Nat.zero_mul]; rfl
    simp only [bsl, h0, hz, hp, Bool.and_self, cond_true, rep, afill]
  refine nilK_lst fun b hb0 => cond_of (fun h1 => ?_) (fun h1 => ?_)
  · exact .inl ⟨hb0 h1, .inl rfl⟩
  · refine opN_of hb ?_
    cases l with
    | nil =>
      have ha : app (mget (mpushs [] [(3, some ⟨[], ty⟩)])) ty E.size by_ zs 5 (.sl 3 0 E.size 0 0 true) (lstA E ([] : List α)) = some (.sl 3 0 E.size 0 0 true, []) := by
        simp only [app, cellsOf_lst (E := E) rfl ([] : List α) false]
        rfl
      refine opN_of ha ?_
      exact .inl ⟨rfl, .inr (.inr ⟨3, 0, E.size, rfl⟩)⟩
    | cons x l =>
      obtain ⟨r1, r2⟩ := room_some h
      refine opN_of (app_lst (x := AV.und) (E := E) rfl (x :: l) (by simp) r1 r2 (Nat.eq_of_beq_eq_true hz) 3 0 0 ⟨[], ty⟩ rfl (Nat.le_refl _)) ?_
      exact .inr ⟨by simp, 5, _, _, rfl, rfl⟩
theorem callQ_saysL {m : Mem} {f : FuncId} {args ar : List AV} {v : AV} {k : AV → Prop} (hl : ∀ (c : Cx) (vs : List Value), Rels c args vs → Rels c ar vs) (h : Says P gl f ar v) (hk : k v) : callQ P gl m f args k :=
  ⟨v, ⟨h.2.2.1, fun B c vals g hgl _ hr => h.2.2.2 B c vals g hgl (fun _ _ h => by cases h) (hl c vals hr)⟩, hk⟩
theorem callW_saysL {m : Mem} {nx : Nat} {f : FuncId} {args ar : List AV} {v : AV} {k : AV → Mem → Prop} (hl : ∀ (c : Cx) (vs : List Value), Rels c args vs → Rels c ar vs) (h : Says P gl f ar v) (hk : k v m) : callW P gl m nx f args k :=
  callW_pure ⟨h.2.2.1, fun B c vals g hgl _ hr => h.2.2.2 B c vals g hgl (fun _ _ h => by cases h) (hl c vals hr)⟩ hk
theorem callF_saysL {m : Mem} {n : Nat} {f : FuncId} {args ar : List AV} {v : AV} {k : AV → Wr → List Nat → Prop} (hl : ∀ (c : Cx) (vs : List Value), Rels c args vs → Rels c ar vs) (h : Says P gl f ar v) (hk : k v [] []) : callF P gl m n f args k :=
  ⟨v, [], [], (show PureAt P gl (look' m []) f args v from ⟨h.2.2.1, fun B c vals g hgl _ hr => h.2.2.2 B c vals g hgl (fun _ _ h => by cases h) (hl c vals hr)⟩).toD, hk⟩
theorem look'_mem {m : Mem} {ft : List Nat} {id : Nat} (h : ft.contains id = true) : look' m ft id = mget m id := by simp only [look', h, cond_true]
theorem topId_own {id : Nat} {l : List α} (h : l ≠ []) : topId (ownV E id l) = [id] := by rw [ownV_ne h]; rfl
theorem topId_blk {id : Nat} {l : List α} : topId (blkV E id l) = [id] := rfl
theorem look'_own {m : Mem} {ft : List Nat} {id ty : Nat} {l l' : List α} (hne : l' ≠ []) (hl : l.length = l'.length) (hm : mget m id = ownB E ty l') : look' m (topId (ownV E id l) ++ ft) id = some ⟨encs E l', ty⟩ := by
  have h0 : l ≠ [] := by
    rintro rfl
    exact hne (List.eq_nil_of_length_eq_zero hl.symm)
  rw [look'_mem (by simp [topId_own h0]), hm, ownB_ne hne]
/- a callee's run as a part of the caller's -/
def retQn (P : Program) (fn : Func) (b : Nat) (R : AV → Mem → Prop) (x : AExit) (s : St) : Prop := chk (Nat.ble s.nx b) (retQ P fn R x s)
theorem call_of_F (hm : P.follows .mixedOrders = true) {f : FuncId} {fn : Func} {code : Code} (hf : P.funcs[f]? = some fn) (hb : fn.body = some code) (hn : (fn.name == "runtime.NumGoroutine") = false) {args : List AV} (hl : Nat.ble args.length fn.ntmps = true) {m : Mem} {nx : Nat} {R : AV → Mem → Prop} {X : Prop}
    (hX : W P K fn.ntmps nx code ⟨initEnv args 0, m, nx⟩ (retQn P fn (nx + 64) R) = X) (h : X) : callW P K.gl m nx f args R := by
  have h := hX.mpr h
  refine ⟨⟨fn, code, hf, hb, hn⟩, fun B c vals g hgl hM ha hr => ?_⟩
  have tri : Tri P K fn.ntmps nx code ⟨initEnv args 0, m, nx⟩ (fun x s => (x = .normal ∨ x = .ret) ∧ ∃ v, aResults P fn s = some v ∧ (R v s.m ∧ s.nx ≤ nx + 64)) := (W_ok hm code _ _ h).mono fun x s hq => by
    obtain ⟨h1, hq⟩ := chk_elim hq
    have h1 := Nat.le_of_ble_eq_true h1
    cases x with
    | normal =>
      simp only [retQ] at hq
      split at hq
      · rename_i v hv; exact ⟨.inl rfl, v, hv, hq, h1⟩
      · exact hq.elim
    | ret =>
      simp only [retQ] at hq
      split at hq
      · rename_i v hv; exact ⟨.inr rfl, v, hv, hq, h1⟩
      · exact hq.elim
    | exit i => exact hq.elim
  refine (calls_of_tri (R := fun v m' nx' => R v m' ∧ nx' ≤ nx + 64) hf hb (Nat.le_of_ble_eq_true hl) tri g hgl hM ha hr).mono ?_
  rintro e w' ⟨v, m', nx', ⟨h1, h2⟩, v', c', q1, q2, q3, q4, q5, q6, q7⟩
  exact ⟨v, m', h1, v', c', q1, q2, q3, q4, q5, q6, fun id h => Nat.lt_of_lt_of_le (q7 id h) h2⟩
theorem rl_nil (c : Cx) (vs : List Value) (h : Rels c [] vs) : Rels c [] vs := h
theorem rl_cons {a b : AV} {r s : List AV} (h : leV a b) (hr : ∀ (c : Cx) (vs : List Value), Rels c r vs → Rels c s vs) (c : Cx) (vs : List Value) (k : Rels c (a :: r) vs) : Rels c (b :: s) vs := by
  cases k with
  | cons k1 k2 => exact .cons (h _ _ k1) (hr _ _ k2)
end
end Go.Proofs.Ytfhcciepaangiaa
