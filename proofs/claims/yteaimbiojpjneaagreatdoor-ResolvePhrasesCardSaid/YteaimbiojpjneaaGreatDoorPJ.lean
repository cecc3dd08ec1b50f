/- slices.Concat: what it answers as a plain list; sorts of texts. -/
import Derived.Test.YteaimbiojpjneaaGreatDoorPI
import Derived.Sort.Grow
set_option linter.unusedVariables false
set_option linter.unusedSimpArgs false
namespace Go.Proofs.YteaimbiojpjneaaGreatDoor
open Go.RowKit

section
variable {α : Type} {E : En α} {P : Program} {K : Cfg} {gl : Nat → Option (List AV)}
def catO {α : Type} (by_ : Nat) (L : List (List α)) : Option (List α) := if L.length ≤ 4611686018427387904 ∧ L.flatten.length * by_ ≤ 281474976710656 ∧ L.flatten.length ≤ 4611686018427387904 then some L.flatten else none
theorem catO_some {by_ : Nat} {L : List (List α)} {y : List α} (h : catO by_ L = some y) : y = L.flatten ∧ L.length ≤ 4611686018427387904 ∧ L.flatten.length * by_ ≤ 281474976710656 ∧ L.flatten.length ≤ 4611686018427387904 := by
  unfold catO at h
  split at h
  · rename_i hl
    cases h
    exact ⟨rfl, hl⟩
  · cases h
theorem app_zero {look : Nat → Option ABlk} {e sz by_ n : Nat} {zs : List AV} {id off esz k cap : Nat} {ex : Bool} : app look e sz by_ zs n (.sl id off esz k cap ex) (lstA E ([] : List α)) = some (.sl id off esz k cap ex, []) := by
  unfold app
  simp only [cellsOf, lstA, List.length_nil, Nat.zero_mul, encs_nil, Nat.beq_refl, cond_true]
theorem app_zeroN {look : Nat → Option ABlk} {e sz by_ n : Nat} {zs : List AV} : app look e sz by_ zs n .nils (lstA E ([] : List α)) = some (.nils, []) := by
  unfold app
  simp only [cellsOf, lstA, List.length_nil, Nat.zero_mul, encs_nil, Nat.beq_refl, cond_true]
theorem rep_split {zs : List AV} (a b : Nat) : rep zs (a + b) = rep zs a ++ rep zs b := by
  induction a with
  | zero => simp [rep]
  | succ a ih => rw [Nat.add_right_comm, rep, rep, ih, List.append_assoc]
theorem app_cap {look : Nat → Option ABlk} {e by_ n id ty S : Nat} {zs : List AV} {l xs : List α} (hz : zs.length = E.size) (hb : look id = some ⟨encs E l ++ rep zs (S - l.length), ty⟩) (hS : l.length + xs.length ≤ S) (hr : S * by_ ≤ 281474976710656) (hr2 : S ≤ 4611686018427387904) :
    ∃ d, app look e E.size by_ zs n (.sl id 0 E.size l.length S false) (lstA E xs) = some (.sl id 0 E.size (l.length + xs.length) S false, d) ∧ (d = [(id, some ⟨encs E (l ++ xs) ++ rep zs (S - (l.length + xs.length)), ty⟩)] ∨ (d = [] ∧ xs = [])) := by
  cases xs with
  | nil => exact ⟨[], by rw [app_zero]; rfl, .inr ⟨rfl, rfl⟩⟩
  | cons x xs =>
    have hrl := rep_len (zs := zs) (sz := E.size) hz
    have hsub : (S - l.length) * E.size = S * E.size - l.length * E.size := Nat.sub_mul _ _ _
    have hmul : (l.length + (x :: xs).length) * E.size ≤ S * E.size := Nat.mul_le_mul_right _ hS
    have hadd : (l.length + (x :: xs).length) * E.size = l.length * E.size + (x :: xs).length * E.size := Nat.add_mul _ _ _
    have hc : cellsOf look E.size (.sl id 0 E.size l.length S false) = some (l.length, encs E l) := by
      simp only [cellsOf, hb, Nat.beq_refl, Bool.and_true, Nat.zero_add, List.drop_zero]
      rw [Nat.ble_eq_true_of_le (by rw [List.length_append, encs_length]; omega), cond_true, ← encs_length, List.take_left]
    have hx : cellsOf look E.size (lstA E (x :: xs)) = some ((x :: xs).length, encs E (x :: xs)) := cellsOf_lst rfl _ _
    refine ⟨_, app_slc (m := (x :: xs).length) hx (by simp) hc hb hS (by show _ ≤ (encs E l ++ rep zs (S - l.length)).length; rw [List.length_append, encs_length, hrl, hsub]; omega) hz E.pos (encs_length _) (encs_length _) (encs_cell _) (by omega), .inl ?_⟩
    have hsp : rep zs (S - l.length) = rep zs (x :: xs).length ++ rep zs (S - (l.length + (x :: xs).length)) := by
      rw [← rep_split]; congr 1; omega
    have key : aput (encs E l ++ rep zs (S - l.length)) (0 + l.length * E.size) (encs E (x :: xs)) = encs E (l ++ (x :: xs)) ++ rep zs (S - (l.length + (x :: xs).length)) := by
      unfold aput
      rw [Nat.zero_add, ← encs_length, List.take_left, hsp, ← List.append_assoc, encs_append]
      congr 1
      have hl1 : (encs E l ++ rep zs (x :: xs).length).length = (encs E l).length + (encs E (x :: xs)).length := by rw [List.length_append, hrl, encs_length (x :: xs)]
      rw [← hl1, List.drop_left]
    rw [key]
theorem flat_snoc {L : List (List α)} {k : Nat} (h : k < L.length) : (L.take (k + 1)).flatten = (L.take k).flatten ++ L[k] := by
  rw [List.take_succ_eq_append_getElem h, List.flatten_append]; simp
theorem flat_le {L : List (List α)} (k : Nat) : (L.take k).flatten.length ≤ L.flatten.length := by
  conv => rhs; rw [← List.take_append_drop k L, List.flatten_append, List.length_append]
  omega
theorem slcS_z {sz id S : Nat} (hS : 0 < S) : slcS sz (.sl id 0 sz S S false) none (some (intA 0)) none = some (.sl id 0 sz 0 S false, []) := by
  rw [slcS_sl (lo := 0) (hi := 0) (mx := S) rfl rfl rfl (Nat.le_refl _) (Nat.zero_le _) (Nat.le_refl _) rfl, beq_ne (by omega), cond_false]
  simp
theorem rep_clean {zs : List AV} (h : cleans zs = true) : ∀ k, cleans (rep zs k) = true
  | 0 => rfl
  | k + 1 => by rw [rep, cleans_append, h, rep_clean h k]; rfl
theorem growA_ok {P : Program} {look : Nat → Option ABlk} {t tx e sz by_ n S : Nat} {zs : List AV} {k : IntKind} (hu : P.underlying t = some (.slice e)) (hx : P.underlying tx = some (.int k)) (hz : tsize P e = some sz) (hb : tbytes P e = some by_) (hze : (tzero P e).bind (fun z => (ofVal z).bind acells) = some zs) (hzl : zs.length = sz) (hp : Nat.ble 1 sz = true) (h1 : 0 < S) (hr : S * by_ ≤ 281474976710656) (hr2 : S ≤ 4611686018427387904) :
    aAppend P look n t tx .nils (intA (S : Int)) = some (.sl n 0 sz S S false, [(n, some ⟨rep zs S, e⟩)]) := by
  unfold aAppend
  simp only [hu, hx]
  unfold aAppendZ
  simp only [hz, hb, hze, hzl, hp, Nat.beq_refl, Int.toNat_natCast, Nat.ble_eq_true_of_le hr, Nat.ble_eq_true_of_le hr2, decide_eq_true (show (0 : Int) < (S : Int) by omega), Bool.true_or, Bool.and_self, cond_true]
theorem opA_append {t tx ty n : Nat} {look : Nat → Option ABlk} {x y : AV} : opA P (.call ⟨.builtin .append, #[.tmp 0, .tmp 1], #[t, tx]⟩) ty [x, y] look n = aAppend P look n t tx x y := by simp [opA, aop, rhoV]
/- the answer as it is -/
theorem says_of_same {f : FuncId} {args : List AV} {v : AV} (hc : cleans args = true) (hv : clean v = true) (h : Own P gl f args (fun u m => freeze (mget m) 6 u = some v)) : Says P gl f args v := by
  refine ⟨hc, hv, h.1, fun B c vals g hgl _ hr => ?_⟩
  have hBs := g.hB
  have hno : ∀ b, (c.own b ∨ c.no b) → b < c.w.heap.size := by
    rintro b (⟨id, blk, h1, h2⟩ | h)
    · rw [← h2]; exact g.lt h1
    · have := g.nol b h; omega
  have hst : ∀ b, c.stable b → (c.alone fun b => c.own b ∨ c.no b).stable b := fun b ⟨h1, h2, h3⟩ => ⟨h1, alone_own, fun h => h.elim h2 h3⟩
  refine (h.2 c.w.heap.size (c.alone fun b => c.own b ∨ c.no b) vals (alone_good hno) (GlobOk.clean_to (c := c) rfl hst hgl) (fun _ => rfl) (fun _ h => h) (Rels.clean_to (c := c) (c0 := c.alone fun b => c.own b ∨ c.no b) rfl hst hr hc)).mono ?_
  rintro e w' ⟨u, m, nx, hv', u', c0, rfl, rfl, k1, k2, k3, k4, k5⟩
  refine ⟨u', { c with w := c0.w }, rfl, rfl, ?_, alone_step g k2, alone_back g k2, fun _ => rfl, fun _ => Iff.rfl⟩
  refine freeze_rel (c' := { c with w := c0.w }) k3 rfl ?_ ?_ (fun id b h => by rw [k4]; exact h) 6 k1 hv'
  · rintro b ⟨h1, h2, h3⟩
    refine ⟨h1, fun ho => h3 ((k2.no b).2 (.inl ho)), fun hn => h3 ((k2.no b).2 (.inr hn))⟩
  · rintro b ⟨id, blk, h1, h2⟩
    have hlow := (k3.low id blk h1).1
    refine ⟨by rw [← h2]; exact k3.lt h1, ?_, fun hn => ?_⟩
    · rintro ⟨id', blk', h1', h2'⟩
      have := g.lt h1'
      have e2 : c.f id' = b := h2'
      omega
    · have : b < B := g.nol b hn
      omega
end
section
variable {α : Type} {E : En α} {P : Program} {gl : Nat → Option (List AV)}
def lenO {α : Type} (l : List α) : Option Unit := if l.length < 4611686018427387904 then some () else none
theorem lenO_some {l : List α} {u : Unit} (h : lenO l = some u) : l.length < 4611686018427387904 := by
  unfold lenO at h
  split at h
  · assumption
  · cases h
/- a literal slice that nobody writes any more, handed to a call -/
theorem pureD_frz {n id ty : Nat} {look : Nat → Option ABlk} {f : FuncId} {l0 l : List α} {v : AV} {d : Wr} (hl : l0.length = l.length) (hb : look id = some ⟨encs E l, ty⟩) (h : ∀ look', PureD P gl look' n f [lstA E l] v d) : PureD P gl look n f [blkV E id l0] v ((id, none) :: d) := by
  refine ⟨(h look).1, fun B c vals g hgl hn hlk hr => ?_⟩
  have hM := hlk id _ hb
  have hlt := g.lt hM
  have hlow := (g.low id _ hM).1
  let c1 : Cx := { c with M := fun j => if j = id then none else c.M j }
  have hM1 : ∀ j b, c1.M j = some b → j ≠ id ∧ c.M j = some b := fun j b h => by
    by_cases e : j = id
    · simp only [c1, e, if_true] at h; cases h
    · simp only [c1, e, if_false] at h; exact ⟨e, h⟩
  have own1 : ∀ b, c1.own b → c.own b := fun b ⟨j, bk, h1, h2⟩ => ⟨j, bk, (hM1 j bk h1).2, h2⟩
  have st1 : Step c c1 := ⟨rfl, rfl, rfl, Nat.le_refl _, fun _ _ _ => rfl, fun b _ h => own1 b h, fun _ _ => rfl, fun _ h => h, fun _ => Iff.rfl, fun b a T h => ⟨a, h, rfl⟩, Nat.le_refl _⟩
  have g1 : Good B c1 := ⟨g.hB, fun j b h => g.low j b (hM1 j b h).2, fun j b h => by
      obtain ⟨arr, vs, rest, q1, q2, q3⟩ := g.blk j b (hM1 j b h).2
      exact ⟨arr, vs, rest, q1, q2, q3.step st1⟩, g.nol, fun i j bi bj hi hj hf => g.inj i j bi bj (hM1 i bi hi).2 (hM1 j bj hj).2 hf⟩
  have hst : c1.stable (c.f id) := by
    refine ⟨hlt, ?_, fun hno => ?_⟩
    · rintro ⟨j, bk, h1, h2⟩
      obtain ⟨e, h3⟩ := hM1 j bk h1
      exact e (g.inj j id bk _ h3 hM h2)
    · have : c.f id < B := g.nol _ hno
      omega
  obtain ⟨arr, vs, rest, q1, q2, q3, q4⟩ := g.cells hM
  have hrr : Rels c1 [lstA E l] vals := by
    cases hr with
    | cons r1 r2 =>
      cases r2
      refine .cons ?_ .nil
      cases r1 with
      | sl ha hb2 hs hnc hc2 hex hmx =>
        rw [hl] at hnc hc2 ⊢
        exact .lst (c := c1) hst (q3.step st1) q4 hc2 (fun h => by cases h) hmx
  refine ((h (fun _ => none)).2 B c1 vals g1 (hgl.step st1) hn (fun _ _ h => by cases h) hrr).mono ?_
  rintro e w' ⟨v', c', h1, h2, h3, h4, h5, h6, h7, h8⟩
  refine ⟨v', c', h1, h2, h3, st1.trans h4, h5, fun i => ?_, h7, h8⟩
  rw [h6]
  rfl
end
section
variable {P : Program} {gl : Nat → Option (List AV)} {look : Nat → Option ABlk} {m : Mem}
/- interfaces: nil or not -/
def ifcE : En Bool where
  size := 1
  enc p := [.ifc p]
  len _ := rfl
  pos := by decide
  cell _ := rfl
  cln _ := rfl
  nrm _ := rfl
theorem ifcE.nf : NoFn ifcE := by
  intro x c hc f l
  simp only [ifcE, List.mem_singleton] at hc
  subst hc
  exact fun h => by cases h
theorem sn_ifc (k : Nat) (p : Bool) : Sn look (k + 1) (.ifc p) (.ifc p) := rfl
theorem fz_ifc (k : Nat) (p : Bool) : Fz (k + 1) m (.ifc p) (.ifc p) := rfl
/- what was there is as it was -/
structure Kept (w w' : World) : Prop where
  os : w'.os = w.os
  tape : w'.tape = w.tape
  output : w'.output = w.output
  size : w.heap.size ≤ w'.heap.size
  blk : ∀ b, b < w.heap.size → w'.heap[b]? = w.heap[b]?
  drawn : dr w ≤ dr w'
theorem Kept.refl (w : World) : Kept w w := ⟨rfl, rfl, rfl, Nat.le_refl _, fun _ _ => rfl, Nat.le_refl _⟩
theorem dr_lax (h : lax = true) (w w' : World) : dr w ≤ dr w' := by unfold dr; rw [h]; exact Nat.le_refl _
theorem Kept.of_below (h : lax = true) {w w' : World} (k : Below w.heap.size w w') : Kept w w' := ⟨k.os, k.tape, k.output, k.size, fun b hb => k.block b hb, dr_lax h _ _⟩
theorem Kept.alloc (w : World) (o : Obj) : Kept w (w.alloc o) := ⟨rfl, rfl, rfl, by simp, fun b hb => Below.heap_alloc w o b hb, Nat.le_refl _⟩
theorem Kept.grow (w : World) (k : Nat) (os : Array Obj) : Kept w (Sort.grow (w.drewN k) os) := ⟨rfl, rfl, rfl, by simp [Sort.grow], fun b hb => by
  show ((w.heap ++ os : Array Obj))[b]? = _
  rw [Array.getElem?_append_left hb], dr_le (Nat.le_add_right _ _)⟩
/- a contract of the kit's, as what a function says -/
theorem kept_step {c : Cx} {w' : World} (h : Kept c.w w') : Step c { c with w := w' } where
  os := h.os
  tape := h.tape
  output := h.output
  size := h.size
  blk := fun b hb _ => h.blk b hb
  own := fun b hb ho => ho
  f := fun _ _ => rfl
  al := fun _ h => h
  no := fun _ => Iff.rfl
  shp := fun b arr T hb => ⟨arr, (h.blk b (heap_lt hb)).trans hb, rfl⟩
  drawn := h.drawn
theorem kept_good {B : Nat} {c : Cx} {w' : World} (g : Good B c) (h : Kept c.w w') : Good B { c with w := w' } :=
  ⟨Nat.le_trans g.hB h.size, g.low, fun id b hb => by
    obtain ⟨arr, vs, rest, q1, q2, q3⟩ := g.blk id b hb
    exact ⟨arr, vs, rest, (h.blk _ (heap_lt q1)).trans q1, q2, q3.step (kept_step h)⟩, g.nol, g.inj⟩
theorem says_of_calls {f : FuncId} {args : List AV} {v : AV} (hp : Plainly P f) (hc : cleans args = true) (hv : clean v = true)
    (h : ∀ (B : Nat) (c : Cx) (vals : List Value), Good B c → GlobOk gl c → Rels c args vals → Calls P f vals.toArray c.w (fun e w' => ∃ v', e = .returned v' ∧ Kept c.w w' ∧ VRel { c with w := w' } v v')) : Says P gl f args v := by
  refine ⟨hc, hv, hp, fun B c vals g hgl _ hr => (h B c vals g hgl hr).mono ?_⟩
  rintro e w' ⟨v', rfl, hk, hvr⟩
  exact ⟨v', { c with w := w' }, rfl, rfl, hvr, kept_step hk, kept_good g hk, fun _ => rfl, fun _ => Iff.rfl⟩
theorem fresh_stable {B : Nat} {c : Cx} {w' : World} (g : Good B c) (h : c.w.heap.size < w'.heap.size) : Cx.stable { c with w := w' } c.w.heap.size := by
  refine ⟨h, ?_, fun hno => ?_⟩
  · rintro ⟨id, b, h1, h2⟩
    have := g.lt h1
    have h2 : c.f id = c.w.heap.size := h2
    omega
  · have h1 : c.w.heap.size < B := g.nol _ hno
    have := g.hB
    omega
end
/- texts joined -/
section
variable {P : Program}
def strO (a b : ByteArray) : Option ByteArray := if a.size + b.size ≤ 9223372036854775807 then some (a ++ b) else none
theorem opA_addS {t yt ty n : Nat} {look : Nat → Option ABlk} {a b r : ByteArray} (h : strO a b = some r) : opA P (.binOp .add t (.tmp 0) (.tmp 1) yt) ty [strA a, strA b] look n = some (strA r, []) := by
  unfold strO at h
  split at h
  · rename_i hl
    cases h
    have hn : ¬ (((a.size + b.size : Nat) : Int) > IntKind.i64.max) := by
      have : IntKind.i64.max = 9223372036854775807 := by decide
      rw [this]; omega
    have e0 : opA P (.binOp .add t (.tmp 0) (.tmp 1) yt) ty [strA a, strA b] look n = aBin P (rhoV [strA a, strA b]) ⟨none, .binOp .add t (.tmp 0) (.tmp 1) yt, ty, "", #[], none⟩ .add t (.tmp 0) (.tmp 1) := by simp [opA, aop]
    rw [e0]
    have h0 : rhoV [strA a, strA b] (.tmp 0) = some (strA a) := rfl
    have h1 : rhoV [strA a, strA b] (.tmp 1) = some (strA b) := rfl
    unfold aBin
    rw [h0, h1]
    simp only [fastBin]
    unfold aPlain
    have e1 : (notSel (.binOp .add t (.tmp 0) (.tmp 1) yt) && allVal (rhoV [strA a, strA b]) (Op.operands (.binOp .add t (.tmp 0) (.tmp 1) yt)).toList) = true := rfl
    simp only [e1, cond_true]
    have e2 : pureRun P (execOp (fun x => (opVal (rhoV [strA a, strA b]) x).getD undef) { dst := none, op := .binOp .add t (.tmp 0) (.tmp 1) yt, type := ty, pos := "", after := #[], guard := none }) = some (.value (.string (a ++ b))) := by
      have v0 : ((opVal (rhoV [strA a, strA b]) (.tmp 0)).getD undef) = .string a := rfl
      have v1 : ((opVal (rhoV [strA a, strA b]) (.tmp 1)).getD undef) = .string b := rfl
      simp only [execOp, v0, v1, pureRun_bind, eqGuard, binOp, Op.stringOp]
      rw [if_neg hn]
      rfl
    rw [e2]
    rfl
  · cases h
end
theorem opA_shr1 {P : Program} {t yt ty n : Nat} {look : Nat → Option ABlk} {a : Int} : opA P (.binOp .shr t (.tmp 0) (.tmp 1) yt) ty [.sc (.int .u64 a), .sc (.int .u64 1)] look n = some (.sc (.int .u64 (a.fdiv 2)), []) := by
  have h : opA P (.binOp .shr t (.tmp 0) (.tmp 1) yt) ty [.sc (.int .u64 a), .sc (.int .u64 1)] look n = some (.sc (match pureRun P (Op.shift .shr .u64 a .u64 1) with | some v => v | _ => undef), []) := rfl
  rw [h]
  simp [Op.shift, IntKind.bits]
  rfl
/- slices in cells at the head of a loop; slices of functions -/
theorem rensL_nil {π : Nat → Nat} : leVs ([] : List AV) (rens π []) := fun _ _ h => h
theorem rensL_cons {π : Nat → Nat} {u v : AV} {us vs : List AV} (h : leV u (ren π v)) (hr : leVs us (rens π vs)) : leVs (u :: us) (rens π (v :: vs)) := fun c xs r => by
  cases r with
  | cons r1 r2 => exact .cons (h c _ r1) (hr c _ r2)
theorem leV_eq {u v : AV} (h : u = v) : leV u v := fun _ _ r => h ▸ r
theorem ren_own {α : Type} {E : En α} {π : Nat → Nat} {j id : Nat} {l l' : List α} (hl : l.length = l'.length) (hj : π j = id) : leV (ownV E id l) (ren π (ownV E j l')) := leV_eq (by rw [ren_ownV, hj, ownV_len hl])
theorem ren_nils_own {α : Type} {E : En α} {π : Nat → Nat} {j : Nat} : leV .nils (ren π (ownV E j [])) := leV_nils true
theorem okB_cellsR {s : St} {pl : List (Nat × Nat)} {id ty : Nat} {us cs : List AV} (hc : leVs us (rens (piL pl s.nx) cs)) (hb : mget s.m (piL pl s.nx id) = some ⟨us, ty⟩) : ∀ b, (some ⟨cs, ty⟩ : Option ABlk) = some b → ∃ b', mget s.m (piL pl s.nx id) = some b' ∧ b'.ty = b.ty ∧ leVs b'.cells (rens (piL pl s.nx) b.cells) := fun b h => by
  cases h
  exact ⟨_, hb, rfl, hc⟩
theorem idx_at {id n j : Nat} {v : Int} (h : (v == (j : Int)) = true) (hj : j < n) : idxS 1 (.sl id 0 1 n n true) (intA v) = some (.ptr id j, []) := by
  obtain rfl := eq_of_beq h
  simp only [idxS, intA]
  have h1 : (decide (0 ≤ (j : Int)) && decide ((j : Int) < (n : Int))) = true := by simp; omega
  rw [h1]
  simp
theorem encs_partP {α : Type} {E : En α} {l : List α} {i o sz : Nat} {x : α} (h : l[i]? = some x) (hle : o + sz ≤ E.size) : ((encs E l).drop (i * E.size + o)).take sz = ((E.enc x).drop o).take sz := by
  rw [← encs_part h, List.drop_take, List.take_take, List.drop_drop, Nat.min_eq_left (by omega)]
theorem ldA_blkP {α : Type} {E : En α} {look : Nat → Option ABlk} {id ty off o sz : Nat} {l : List α} {i : Nat} {x : α} {us : List AV} (hb : look id = some ⟨encs E l, ty⟩) (h : l[i]? = some x) (ho : off = i * E.size + o) (hle : o + sz ≤ E.size) (hv : ((E.enc x).drop o).take sz = us) : ldA look sz (.ptr id off) = some (.agg us, []) := by
  have h2 := encs_bound (E := E) h
  have hble : Nat.ble (i * E.size + o + sz) (encs E l).length = true := Nat.ble_eq_true_of_le (by omega)
  simp only [ldA, hb, partA, ho, hble, cond_true, encs_partP h hle, hv, Option.map_some]
/- a slice of slices, laid as a literal -/
theorem acells_own {α : Type} {E : En α} {id : Nat} {l : List α} : acells (ownV E id l) = some [ownV E id l] := by cases l <;> rfl
def rowAV (x : AV) : Prop := acells x = some [x] ∧ isCell x = true
theorem rows2 {e n : Nat} {z x y : AV} (hx : acells x = some [x]) (hy : acells y = some [y]) : bsl n e 1 2 [z] [(0, x), (1, y)] = some (.sl n 0 1 2 2 true, [(n, some ⟨[x, y], e⟩)]) := by
  simp [bsl, afill, hx, hy, rep, aput]
  rfl
theorem rows3 {e n : Nat} {z x y w : AV} (hx : acells x = some [x]) (hy : acells y = some [y]) (hw : acells w = some [w]) : bsl n e 1 3 [z] [(0, x), (1, y), (2, w)] = some (.sl n 0 1 3 3 true, [(n, some ⟨[x, y, w], e⟩)]) := by
  simp [bsl, afill, hx, hy, hw, rep, aput]
  rfl
theorem cond_g {ρ : Type} {t : ρ} {c : Bool} {a b : Option ρ} {X : Prop} (h1 : c = true → a = some t → X) (h2 : c = false → b = some t → X) : (bif c then a else b) = some t → X := by
  cases c
  · exact h2 rfl
  · exact h1 rfl
theorem sn_rows {α : Type} {E : En α} {look : Nat → Option ABlk} (k : Nat) {id ty n : Nat} {us vs : List AV} {L : List (List α)} (hb : look id = some ⟨us, ty⟩) (h : SnL look k us vs) (hn : us.length = n) (hl : L.length = n) (hv : encs (lstE E) L = vs) : Sn look (k + 1) (.sl id 0 1 n n true) (lstA (lstE E) L) := by
  obtain ⟨ws, h1, h2⟩ := snL_map k h
  have h3 : (us.drop 0).take (n * 1) = us := by rw [List.drop_zero, Nat.mul_one, ← hn, List.take_length]
  have h4 : Nat.ble (0 + n * 1) us.length = true := Nat.ble_eq_true_of_le (by omega)
  simp only [Sn, snap, hb, h4, cond_true, h3, h1, Option.map_some, norm, h2]
  rw [← hv, ← hl]
/- a part of an element, stored -/
theorem storeW_part {α : Type} {E : En α} {P : Program} {look : Nat → Option ABlk} {t id off ty o i sz : Nat} {l : List α} {x y : α} {cs : List AV} {k : AV → Wr → Prop} (hu : (P.underlying t).map isAggD = some true) (hz : tsize P t = some sz) (hl : Nat.beq cs.length sz = true) (hv : cs.all isCell = true) (hb : look id = some ⟨encs E l, ty⟩) (h : l[i]? = some x) (ho : off = i * E.size + o) (hlt : o + cs.length ≤ E.size) (hy : aput (E.enc x) o cs = E.enc y)
    (hk : k .und [(id, some ⟨encs E (l.set i y), ty⟩)]) : storeW P look t (.ptr id off) (.agg cs) k := by
  have hbd := encs_bound (E := E) h
  refine storeW_cells hu hz hl hv hb (Nat.ble_eq_true_of_le (by omega)) ?_ hk
  rw [ho]
  exact encs_set_cell h hlt hy
theorem storeW_partO {α : Type} {E : En α} {P : Program} {look : Nat → Option ABlk} {t id off ty o i sz : Nat} {l : List α} {x y : α} {cs : List AV} {k : AV → Wr → Prop} (hu : (P.underlying t).map isAggD = some true) (hz : tsize P t = some sz) (hl : Nat.beq cs.length sz = true) (hv : cs.all isCell = true) (hb : look id = ownB E ty l) (h : l[i]? = some x) (ho : off = i * E.size + o) (hlt : o + cs.length ≤ E.size) (hy : aput (E.enc x) o cs = E.enc y)
    (hk : k .und [(id, ownB E ty (l.set i y))]) : storeW P look t (.ptr id off) (.agg cs) k :=
  storeW_part hu hz hl hv (own_some hb h) h ho hlt hy (by rw [ownB_ne (set_ne h)] at hk; exact hk)
end Go.Proofs.YteaimbiojpjneaaGreatDoor
