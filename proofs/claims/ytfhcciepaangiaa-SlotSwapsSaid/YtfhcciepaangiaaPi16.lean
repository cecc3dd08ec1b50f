/- Regions that draw their order: the law. -/
import Derived.Test.YtfhcciepaangiaaPi15
set_option linter.unusedVariables false
set_option linter.unusedSimpArgs false
namespace Go.Proofs.Ytfhcciepaangiaa
open Go.RowKit

section
variable {P : Program} {B : Nat} {K : Cfg} {cf : CallF} {Q : Exit → Act → World → Prop}

structure Draw (P : Program) (K : Cfg) (nt : Nat) (ops : Array Oper) (s s' : St) (S : Nat → St) (v : Nat → AV) (rc : Nat → Rec) : Prop where
  s0 : S 0 = s
  s1 : S ops.size = s'
  st : ∀ i o, ops[i]? = some o → Stp P K nt ops o (S i) (S (i + 1)) (v i) (rc i)
  bk : ∀ (j : Nat) (o : Oper), ops.toList[j]? = some o → ∀ e ∈ o.after.toList, Region.binds .any e = true → e.on < j
  sl : ∀ (j : Nat) (o : Oper), ops[j]? = some o → notSel o.op = true
  nm : ∀ (i j : Nat) (o o' : Oper) (t : Nat), ops[i]? = some o → ops[j]? = some o' → o.dst = some t → t ∈ namesOf ops o' → i = j ∨ ordB (masks ops.toList []) i j = true
  cn : ∀ (i j : Nat), i < ops.size → j < ops.size → i ≠ j → (rc i).d ≠ [] → ordB (masks ops.toList []) i j = true ∨ apartR (rc i) (rc j) = true
theorem draw_mk {nt : Nat} {ops : Array Oper} {s s' : St} {rs l' : List Rec} {S : Nat → St} {v : Nat → AV} {rc : Nat → Rec} (h1 : statOk ops (masks ops.toList []) = true) (a1 : S 0 = s) (a2 : S ops.toList.length = s') (a3 : rs = [] ++ l') (a4 : l'.length = ops.toList.length) (a5 : ∀ i, i < ops.toList.length → l'[i]? = some (rc i))
    (a6 : ∀ i o, ops.toList[i]? = some o → Stp P K nt ops o (S i) (S (i + 1)) (v i) (rc i)) (h3 : confOk (masks ops.toList []) rs = true) : Draw P K nt ops s s' S v rc := by
  simp only [List.nil_append] at a3
  subst a3
  have hst : ∀ (j : Nat) (o : Oper), ops[j]? = some o → statOne ops (masks ops.toList []) ops.toList.zipIdx o j = true := by
    intro j o ho
    have hm : (o, j) ∈ ops.toList.zipIdx := List.mem_zipIdx_iff_getElem?.2 (by simpa using ho)
    exact List.all_eq_true.1 h1 (o, j) hm
  refine ⟨a1, by simpa using a2, fun i o ho => a6 i o (by simpa using ho), fun j o ho e he hb => ?_, fun j o ho => ?_, fun i j o o' t ho ho' hd ht => ?_, fun i j hi hj hne hd => ?_⟩
  · have := hst j o (by simpa using ho)
    simp only [statOne, Bool.and_eq_true] at this
    have := List.all_eq_true.1 this.1.1 e he
    simp only [hb, Bool.not_true, Bool.false_or] at this
    exact Nat.le_of_ble_eq_true this
  · have := hst j o ho
    simp only [statOne, Bool.and_eq_true] at this
    exact this.1.2
  · have := hst i o ho
    simp only [statOne, Bool.and_eq_true, hd] at this
    have hm : (o', j) ∈ ops.toList.zipIdx := List.mem_zipIdx_iff_getElem?.2 (by simpa using ho')
    have := List.all_eq_true.1 this.2 (o', j) hm
    simp only [Bool.or_eq_true] at this
    rcases this with (h | h) | h
    · exact .inl (Nat.eq_of_beq_eq_true h)
    · simp at h; exact absurd ht h
    · exact .inr h
  · have hs : ops.toList.length = ops.size := by simp
    have mi : (rc i, i) ∈ rs.zipIdx := List.mem_zipIdx_iff_getElem?.2 (a5 i (by omega))
    have mj : (rc j, j) ∈ rs.zipIdx := List.mem_zipIdx_iff_getElem?.2 (a5 j (by omega))
    have := List.all_eq_true.1 h3 (rc i, i) mi
    simp only [Bool.or_eq_true] at this
    rcases this with h | h
    · exact absurd (by simpa using h) hd
    · have := List.all_eq_true.1 h (rc j, j) mj
      simp only [Bool.or_eq_true] at this
      rcases this with (h | h) | h
      · exact absurd (Nat.eq_of_beq_eq_true h) hne
      · exact .inl h
      · exact .inr h

def uE (ops : Array Oper) (v : Nat → AV) (i t : Nat) : Option AV := if (ops[i]?).bind (·.dst) = some t then some (v i) else none
def uM (rc : Nat → Rec) (i id : Nat) : Option (Option ABlk) := wval (rc i).d id
theorem putD_get {nt : Nat} {e e' : List (Nat × AV)} {dst : Option Nat} {x : AV} (h : putD nt e dst x = some e') (t : Nat) : eget e' t = if dst = some t then x else eget e t := by
  unfold putD at h
  cases dst with
  | none => simp only [Option.some.injEq] at h; subst h; simp
  | some d =>
    simp only [] at h
    cases hd : Nat.blt d nt with
    | false => simp [hd] at h
    | true =>
      simp only [hd, cond_true, Option.some.injEq] at h
      subst h
      rw [eget_eput]
      simp
theorem putD_lt {nt : Nat} {e e' : List (Nat × AV)} {d : Nat} {x : AV} (h : putD nt e (some d) x = some e') : d < nt := by
  unfold putD at h
  simp only [] at h
  cases hd : Nat.blt d nt with
  | false => simp [hd] at h
  | true => exact Nat.le_of_ble_eq_true hd
theorem mputs_nil (m : List (Nat × Option ABlk)) : mputs m [] = m := rfl
section
variable {nt : Nat} {ops : Array Oper} {s s' : St} {S : Nat → St} {v : Nat → AV} {rc : Nat → Rec} (D : Draw P K nt ops s s' S v rc)
include D
theorem Draw.env : ∀ i, i ≤ ops.size → ∀ t, eget (S i).e t = resU (eget s.e) (uE ops v) (fun _ => true) i t
  | 0, _, t => by rw [D.s0]; rfl
  | i + 1, hi, t => by
    have ih := Draw.env i (by omega) t
    obtain ⟨o, ho⟩ : ∃ o, ops[i]? = some o := ⟨ops[i]'(by omega), Array.getElem?_eq_getElem (by omega)⟩
    obtain ⟨-, h2, -⟩ := D.st i o ho
    rw [putD_get h2, ih]
    show _ = (if (fun _ => true) i = true then ((uE ops v) i t).getD (resU (eget s.e) (uE ops v) (fun _ => true) i t) else resU (eget s.e) (uE ops v) (fun _ => true) i t)
    simp only [if_true, uE, ho, Option.bind_some]
    by_cases h : o.dst = some t
    · simp only [h, if_true, Option.getD_some]
    · simp only [h, if_false, Option.getD_none]
theorem Draw.mem : ∀ i, i ≤ ops.size → ∀ id, mget (S i).m id = resU (mget s.m) (uM rc) (fun _ => true) i id
  | 0, _, t => by rw [D.s0]; rfl
  | i + 1, hi, t => by
    have ih := Draw.mem i (by omega) t
    obtain ⟨o, ho⟩ : ∃ o, ops[i]? = some o := ⟨ops[i]'(by omega), Array.getElem?_eq_getElem (by omega)⟩
    obtain ⟨-, -, h3, -⟩ := D.st i o ho
    rw [h3, upd_wval, ih]
    rfl
theorem Draw.num : ∀ i, i ≤ ops.size → (S i).nx = s.nx + i
  | 0, _ => by rw [D.s0]; rfl
  | i + 1, hi => by
    have ih := Draw.num i (by omega)
    obtain ⟨o, ho⟩ : ∃ o, ops[i]? = some o := ⟨ops[i]'(by omega), Array.getElem?_eq_getElem (by omega)⟩
    obtain ⟨-, -, -, h4⟩ := D.st i o ho
    rw [h4, ih]; rfl
end
structure DInv (K : Cfg) (B nt : Nat) (ops : Array Oper) (c0 : Cx) (s : St) (v : Nat → AV) (rc : Nat → Rec) (listed : Array Bool) (c : Cx) (a : Act) : Prop where
  sz : listed.size = ops.size
  cl : ∀ (j : Nat) (o : Oper), ops.toList[j]? = some o → listed.getD j false = true → ∀ e ∈ o.after.toList, Region.binds .any e = true → listed.getD e.on false = true
  g : Good B c
  gl : GlobOk K.gl c
  st : Step c0 c
  e : ∀ t, VRel c (resU (eget s.e) (uE ops v) (fun i => listed.getD i false) ops.size t) (a.eval (.tmp t))
  m : ∀ id, c.M id = resU (mget s.m) (uM rc) (fun i => listed.getD i false) ops.size id
  al : ∀ id, c.al id → id < s.nx ∨ ∃ i, listed.getD i false = true ∧ id = s.nx + i
  ts : a.tmps.size = nt
  df : a.defers = []
theorem listed_also {listed : Array Bool} {j : Nat} (hj : j < listed.size) : (fun i => (listed.setIfInBounds j true).getD i false) = also (fun i => listed.getD i false) j := by
  funext i
  simp only [also, Array.getD_eq_getD_getElem?, Array.getElem?_setIfInBounds]
  by_cases h : j = i
  · subst h; simp [hj]
  · have : i ≠ j := fun e => h e.symm
    simp [h, this]
def left (listed : Array Bool) (n : Nat) : Nat := (List.range n).countP fun i => !listed.getD i false
theorem left_set {listed : Array Bool} {j : Nat} (hj : j < listed.size) (hl : listed.getD j false = false) : ∀ n, left (listed.setIfInBounds j true) n + (if j < n then 1 else 0) = left listed n
  | 0 => by simp [left]
  | n + 1 => by
    have ih := left_set hj hl n
    unfold left at ih ⊢
    simp only [List.range_succ, List.countP_append, List.countP_cons, List.countP_nil]
    have e : (listed.setIfInBounds j true).getD n false = also (fun i => listed.getD i false) j n := congrFun (listed_also hj) n
    rw [e]
    by_cases h : n = j
    · subst h
      simp only [also, hl]
      simp at ih ⊢
      omega
    · have h1 : (j < n + 1) = (j < n) := by apply propext; omega
      have h2 : (n == j) = false := by simpa using h
      simp only [also, h2, Bool.or_false, h1]
      omega
theorem ready_mem {ops : Array Oper} {listed : Array Bool} {j : Nat} (h : j ∈ Region.ready .any ops listed) : j < ops.size ∧ listed.getD j true = false ∧ ∃ o, ops[j]? = some o ∧ ∀ e ∈ o.after.toList, Region.binds .any e = true → listed.getD e.on false = true := by
  unfold Region.ready at h
  rw [List.mem_filter] at h
  obtain ⟨h1, h2⟩ := h
  simp only [Bool.and_eq_true, Bool.not_eq_true'] at h2
  cases ho : ops[j]? with
  | none => rw [ho] at h2; simp at h2
  | some o =>
    refine ⟨List.mem_range.1 h1, h2.1, o, rfl, fun e he hb => ?_⟩
    rw [ho] at h2
    simp only [Option.map_some, Option.getD_some] at h2
    have := Array.all_eq_true'.1 h2.2 e (by simpa using he)
    simpa [hb] using this
theorem ready_nil {ops : Array Oper} {listed : Array Bool} (hsz : listed.size = ops.size) (hb : ∀ (j : Nat) (o : Oper), ops.toList[j]? = some o → ∀ e ∈ o.after.toList, Region.binds .any e = true → e.on < j) (h : Region.ready .any ops listed = []) : ∀ j, j < ops.size → listed.getD j false = true := by
  intro j
  induction j using Nat.strongRecOn with
  | _ j ih =>
    intro hj
    cases hl : listed.getD j false with
    | true => rfl
    | false =>
      exfalso
      have hm : j ∈ Region.ready .any ops listed := by
        unfold Region.ready
        rw [List.mem_filter]
        refine ⟨List.mem_range.2 hj, ?_⟩
        have h1 : listed.getD j true = false := by
          simp only [Array.getD_eq_getD_getElem?] at hl ⊢
          rw [Array.getElem?_eq_getElem (by omega)] at hl ⊢
          simpa using hl
        obtain ⟨o, ho⟩ : ∃ o, ops[j]? = some o := ⟨ops[j], Array.getElem?_eq_getElem hj⟩
        simp only [h1, Bool.not_false, Bool.true_and, ho, Option.map_some, Option.getD_some]
        refine Array.all_eq_true'.2 fun e he => ?_
        cases hbe : Region.binds .any e with
        | false => simp
        | true =>
          have hlt := hb j o (by simpa using ho) e (by simpa using he) hbe
          simp [ih e.on hlt (by omega)]
      rw [h] at hm
      simp at hm
theorem draw_any {nt : Nat} {ops : Array Oper} {s s' : St} {S : Nat → St} {v : Nat → AV} {rc : Nat → Rec} (D : Draw P K nt ops s s' S v rc) {c0 : Cx}
    (hQ : ∀ c' a', SR K.gl B nt c' s' a' → Step c0 c' → Q .normal a' c'.w) : ∀ (fuel : Nat) (listed : Array Bool) (c : Cx) (a : Act), left listed ops.size = fuel → DInv K B nt ops c0 s v rc listed c a → wpAny P .any ops Q fuel listed a c.w := by
  have fin : ∀ (listed : Array Bool) (c : Cx) (a : Act), DInv K B nt ops c0 s v rc listed c a → Region.ready .any ops listed = [] → Q .normal a c.w := by
    intro listed c a I hr
    have hall := ready_nil I.sz D.bk hr
    refine hQ c a ⟨I.g, fun t => ?_, fun id => ?_, fun id h => ?_, I.ts, I.df, I.gl⟩ I.st
    · rw [← D.s1, D.env ops.size (Nat.le_refl _) t, ← resU_congr ops.size (fun i hi _ => hall i hi)]; exact I.e t
    · rw [← D.s1, D.mem ops.size (Nat.le_refl _) id, ← resU_congr ops.size (fun i hi _ => hall i hi)]; exact I.m id
    · have hn := D.num ops.size (Nat.le_refl _)
      rw [D.s1] at hn
      rcases I.al id h with h | ⟨i, hi, rfl⟩
      · omega
      · have : i < ops.size := by
          rcases Nat.lt_or_ge i ops.size with h | h
          · exact h
          · rw [Array.getD_eq_getD_getElem?, Array.getElem?_eq_none (by rw [I.sz]; exact h)] at hi; simp at hi
        omega
  intro fuel
  induction fuel with
  | zero =>
    intro listed c a hf I
    have hr : Region.ready .any ops listed = [] := by
      cases hr : Region.ready .any ops listed with
      | nil => rfl
      | cons j r =>
        exfalso
        obtain ⟨h1, h2, -⟩ := ready_mem (ops := ops) (listed := listed) (j := j) (by rw [hr]; simp)
        have := List.countP_eq_zero.1 hf j (List.mem_range.2 h1)
        simp only [Array.getD_eq_getD_getElem?] at h2 this
        rw [Array.getElem?_eq_getElem (by rw [I.sz]; exact h1)] at h2 this
        simp at h2 this
        rw [h2] at this; cases this
    exact ⟨hr, fin listed c a I hr⟩
  | succ fuel ih =>
    intro listed c a hf I
    refine ⟨fin listed c a I, fun j hj => ?_⟩
    obtain ⟨hjn, hjt, o, ho, hed⟩ := ready_mem hj
    have hjs : j < listed.size := by rw [I.sz]; exact hjn
    have hjl : listed.getD j false = false := by
      simp only [Array.getD_eq_getD_getElem?] at hjt ⊢
      rw [Array.getElem?_eq_getElem hjs] at hjt ⊢
      simpa using hjt
    have hol : ops.toList[j]? = some o := by simpa using ho
    have hlsz : ops.toList.length = ops.size := by simp
    have hord : ∀ i, i < ops.size → i ≠ j → ordB (masks ops.toList []) i j = true → (listed.getD i false = true ↔ i < j) := by
      intro i hi hne hor
      simp only [ordB, Bool.or_eq_true] at hor
      rcases hor with h | h
      · have h1 := mask_lt D.bk j h (by omega)
        have h2 := mask_listed D.bk (L := fun i => listed.getD i false) I.cl j o hol hed h
        exact ⟨fun _ => h1, fun _ => h2⟩
      · have h1 := mask_lt D.bk i h (by omega)
        refine ⟨fun hl => ?_, fun hlt => by omega⟩
        obtain ⟨oi, hoi⟩ : ∃ oi, ops.toList[i]? = some oi := ⟨ops.toList[i], List.getElem?_eq_getElem (by omega)⟩
        have h2 := mask_listed D.bk (L := fun i => listed.getD i false) I.cl i oi hoi (I.cl i oi hoi hl) h
        have h2 : listed.getD j false = true := h2
        rw [hjl] at h2; cases h2
    have hord2 : ∀ i, i < ops.size → i ≠ j → ordB (masks ops.toList []) j i = true → (listed.getD i false = true ↔ i < j) := fun i hi hne h => hord i hi hne (by simp only [ordB, Bool.or_eq_true] at h ⊢; exact h.symm)
    have ev : ∀ t, t ∈ namesOf ops o → VRel c (eget (S j).e t) (a.eval (.tmp t)) := by
      intro t ht
      rw [D.env j (by omega) t, ← resU_text (L := fun i => listed.getD i false) (n := ops.size) (by omega)]
      · exact I.e t
      · intro i hi hu
        by_cases hij : i = j
        · subst hij; simp [hjl]
        · obtain ⟨oi, hoi⟩ : ∃ oi, ops[i]? = some oi := ⟨ops[i], Array.getElem?_eq_getElem hi⟩
          have hd : oi.dst = some t := by
            unfold uE at hu
            rw [hoi] at hu
            by_cases h : oi.dst = some t
            · exact h
            · simp [h] at hu
          rcases D.nm i j oi o t hoi ho hd ht with h | h
          · exact absurd h hij
          · exact hord i hi hij h
    have mv : ∀ id, id ∈ (rc j).ft → c.M id = mget (S j).m id := by
      intro id hid
      rw [I.m, D.mem j (by omega) id, ← resU_text (L := fun i => listed.getD i false) (n := ops.size) (by omega)]
      intro i hi hu
      by_cases hij : i = j
      · subst hij; simp [hjl]
      · obtain ⟨p, hp, rfl⟩ := wval_mem hu
        rcases D.cn i j hi hjn hij (fun h => by rw [h] at hp; simp at hp) with h | h
        · exact hord i hi hij h
        · exfalso
          have := List.all_eq_true.1 h p hp
          simp only [Bool.and_eq_true, Bool.not_eq_true'] at this
          have h1 := this.1
          simp at h1
          exact h1 hid
    have hlater : ∀ i t, j < i → i < ops.size → o.dst = some t → uE ops v i t ≠ none → listed.getD i false = false := by
      intro i t h1 h2 hd hu
      obtain ⟨oi, hoi⟩ : ∃ oi, ops[i]? = some oi := ⟨ops[i], Array.getElem?_eq_getElem h2⟩
      have hdi : oi.dst = some t := by
        unfold uE at hu
        rw [hoi] at hu
        by_cases h : oi.dst = some t
        · exact h
        · simp [h] at hu
      rcases D.nm j i o oi t ho hoi hd (by unfold namesOf; simp [hdi]) with h | h
      · omega
      · have := hord2 i h2 (by omega) h
        cases hl : listed.getD i false with
        | false => rfl
        | true => have := this.1 hl; omega
    have hlaterM : ∀ i id, j < i → i < ops.size → uM rc j id ≠ none → uM rc i id ≠ none → listed.getD i false = false := by
      intro i id h1 h2 hu hu'
      obtain ⟨p, hp, hpi⟩ := wval_mem hu
      obtain ⟨q, hq, hqi⟩ := wval_mem hu'
      rcases D.cn j i hjn h2 (by omega) (fun h => by rw [h] at hp; simp at hp) with h | h
      · have := hord2 i h2 (by omega) h
        cases hl : listed.getD i false with
        | false => rfl
        | true => have := this.1 hl; omega
      · exfalso
        have := List.all_eq_true.1 h p hp
        simp only [Bool.and_eq_true] at this
        have := List.all_eq_true.1 this.2 q hq
        simp [hpi, hqi] at this
    have next : ∀ (c1 : Cx) (u : Value), VRel c1 (v j) u → Step c c1 → Good B c1 → (∀ id, c1.M id = upd c.M (rc j).d id) → (∀ id, c1.al id → c.al id ∨ id = s.nx + j) → putD nt (S j).e o.dst (v j) = some (S (j + 1)).e → wpAny P .any ops Q fuel (listed.setIfInBounds j true) (a.put o.dst u) c1.w := by
      intro c1 u k1 k2 k3 k4 k5 hput
      have hla := listed_also hjs
      refine ih _ c1 _ (by have := left_set hjs hjl ops.size; simp only [hjn, if_true] at this; omega) ⟨by simp [I.sz], ?_, k3, I.gl.step k2, I.st.trans k2, fun t => ?_, fun id => ?_, fun id h => ?_, put_size.trans I.ts, put_defers.trans I.df⟩
      · intro i oi hoi hl e he hb
        have e1 := congrFun hla i
        have e2 := congrFun hla e.on
        simp only [also] at e1 e2
        rw [e1] at hl
        rw [e2]
        simp only [Bool.or_eq_true] at hl ⊢
        rcases hl with hl | hl
        · exact .inl (I.cl i oi hoi hl e he hb)
        · have : i = j := by simpa using hl
          subst this
          rw [hol] at hoi
          cases hoi
          exact .inl (hed e he hb)
      · rw [hla]
        by_cases hd : o.dst = some t
        · rw [resU_some (v := v j) hjn (by simp [uE, ho, hd]) (fun i h1 h2 h3 => hlater i t h1 h2 hd h3)]
          have hlt : t < a.tmps.size := by rw [I.ts]; rw [hd] at hput; exact putD_lt hput
          rw [hd, put_eval hlt]
          simpa using k1
        · rw [resU_none (by simp [uE, ho, hd])]
          have : (a.put o.dst u).eval (.tmp t) = a.eval (.tmp t) := by
            cases hdd : o.dst with
            | none => rfl
            | some d =>
              have hlt : d < a.tmps.size := by rw [I.ts]; rw [hdd] at hput; exact putD_lt hput
              rw [put_eval hlt]
              have : d ≠ t := fun h => hd (by rw [hdd, h])
              simp [this]
          rw [this]
          exact (I.e t).step k2
      · rw [hla, k4, upd_wval]
        cases hw : wval (rc j).d id with
        | none => rw [resU_none (by simpa [uM] using hw), Option.getD_none]; exact I.m id
        | some r => rw [resU_some (v := r) hjn (by simpa [uM] using hw) (fun i h1 h2 h3 => hlaterM i id h1 h2 (by simp [uM, hw]) h3), Option.getD_some]
      · rcases k5 id h with h | h
        · rcases I.al id h with h | ⟨i, hi, he⟩
          · exact .inl h
          · refine .inr ⟨i, ?_, he⟩
            have e1 := congrFun hla i
            simp only [also] at e1
            rw [e1, hi]; rfl
        · refine .inr ⟨j, ?_, h⟩
          have e1 := congrFun hla j
          simp only [also] at e1
          rw [e1]; simp
    obtain ⟨hcase, hput, hmem, hnx⟩ := D.st j o ho
    have hwant : ∀ b, awanted ops (S j).e o = some b → Region.wanted o (yielded ops a.tmps) = b := fun b h => wanted_ok (c := c) (fun t j' w' hg hd => ev t (by unfold namesOf; simp [hg, hd])) h
    unfold wpOp
    simp only [ho]
    rcases hcase with ⟨hw, hop⟩ | ⟨hw, hv, hr⟩
    · rw [hwant true hw]
      simp only [if_true]
      left
      have hnum := D.num j (by omega)
      refine hop B c a _ Q I.g I.gl (fun h => ?_) (fun id b hb => ?_) (fun x hx y hy => ?_) ?_
      · rw [hnum] at h
        rcases I.al _ h with h | ⟨i, hi, he⟩
        · omega
        · have : i = j := by omega
          subst this
          rw [hjl] at hi; cases hi
      · unfold look' at hb
        cases hc : ((rc j).ft).contains id with
        | false => rw [hc] at hb; simp at hb
        | true =>
          rw [hc] at hb
          simp only [cond_true] at hb
          rw [mv id (by simpa using hc)]; exact hb
      · exact rho_rel I.gl (fun t ht => ev t (by subst ht; unfold namesOf tmpsOf; simp; exact .inl ⟨.tmp t, by simpa using hx, rfl⟩)) hy
      · intro c1 u k1 k2 k3 k4 k5 k6
        exact next c1 u k1 k2 k3 k4 (fun id h => by rw [← hnum]; exact k5 id h) hput
    · rw [hwant false hw]
      simp only [Bool.false_eq_true, if_false]
      exact next c undef (by rw [hv]; exact .tup .nil) (Step.refl c) I.g (fun id => by rw [hr]; rfl) (fun id h => .inl h) hput
theorem draw_run (hm : P.follows .mixedOrders = true) {nt id : Nat} {ops : Array Oper} {s s' : St} {S : Nat → St} {v : Nat → AV} {rc : Nat → Rec} (D : Draw P K nt ops s s' S v rc) {c : Cx} {a : Act} (sr : SR K.gl B nt c s a)
    (hQ : ∀ c' a', SR K.gl B nt c' s' a' → Step c c' → Q .normal a' c'.w) : (Code.region id ops true).wp P Q a c.w := by
  refine wp_region_any hm ?_
  have st := drew_step c
  have hz : ∀ i, (Array.replicate ops.size false).getD i false = false := by
    intro i
    simp only [Array.getD_eq_getD_getElem?, Array.getElem?_replicate]
    split <;> rfl
  have hres : ∀ {κ ν : Type} (base : κ → ν) (u : Nat → κ → Option ν) (n : Nat) (k : κ), resU base u (fun i => (Array.replicate ops.size false).getD i false) n k = base k := by
    intro κ ν base u n k
    rw [resU_cut (j := 0) n (Nat.zero_le _) (fun i _ _ _ => hz i)]; rfl
  refine draw_any (c0 := c) D hQ ops.size _ c.drew a ?_ ⟨by simp, (fun j o _ hl => absurd ((hz j).symm.trans hl) (by simp)), drew_good sr.g, sr.gl.step st, st, fun t => by rw [hres]; exact (sr.e t).step st, fun id => by rw [hres]; exact sr.m id, fun id h => .inl (sr.al id h), sr.sz, sr.df⟩
  unfold left
  rw [List.countP_eq_length.2 (fun i _ => by rw [hz]; rfl)]
  simp
theorem region_ok (hm : P.follows .mixedOrders = true) (hcf : CallOk P K.gl cf) {nt id : Nat} {ops : Array Oper} {d : Bool} {s s' : St} {c : Cx} {a : Act} (h : evRegion P K cf nt ops d s = some s') (sr : SR K.gl B nt c s a)
    (hQ : ∀ c' a', SR K.gl B nt c' s' a' → Step c c' → Q .normal a' c'.w) : (Code.region id ops d).wp P Q a c.w := by
  unfold evRegion at h
  cases d with
  | false =>
    simp only [cond_false] at h
    refine wp_region ?_
    have := evSeq_ok hcf (Q := Q) ops.toList [] (by simp) h sr hQ
    simpa [List.range_eq_range'] using this
  | true =>
    simp only [cond_true] at h
    cases h1 : statOk ops (masks ops.toList []) with
    | false => rw [h1] at h; simp at h
    | true =>
      rw [h1] at h
      simp only [cond_true] at h
      split at h
      · rename_i s1 rs h2
        cases h3 : confOk (masks ops.toList []) rs with
        | false => rw [h3] at h; simp at h
        | true =>
          rw [h3] at h
          simp only [cond_true, Option.some.injEq] at h
          subst h
          obtain ⟨S, v, rc, l', a1, a2, a3, a4, a5, a6⟩ := evDraw_trace hcf _ h2
          exact draw_run hm (draw_mk h1 a1 a2 a3 a4 a5 a6 h3) sr hQ
      · cases h
end
end Go.Proofs.Ytfhcciepaangiaa
