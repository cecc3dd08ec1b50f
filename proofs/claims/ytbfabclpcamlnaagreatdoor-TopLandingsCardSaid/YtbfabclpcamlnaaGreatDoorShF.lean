/- A part. -/
import Derived.Test.YtbfabclpcamlnaaGreatDoorX1E2
import Derived.Test.YtbfabclpcamlnaaGreatDoorPY
set_option linter.unusedVariables false
set_option linter.unusedSimpArgs false
namespace Go.Proofs.YtbfabclpcamlnaaGreatDoor
def U6 : List AV → Option (List Ag)
  | [] => some []
  | .sc (.int .i64 a) :: .sc (.int .i64 b) :: .sc (.int .i64 c) :: .sc (.int .i64 d) :: .sc (.int .i64 e) :: .sc (.int .i64 f) :: r => match U6 r with
    | some l => some (⟨a, b, c, d, e, f⟩ :: l)
    | none => none
  | _ => none
theorem Wt : ∀ {cs : List AV} {l : List Ag}, U6 cs = some l → cs = Ay Ag.E l := by
  intro cs
  induction cs using U6.induct with
  | case1 => intro l h; cases h; rfl
  | case2 a b c d e f r l' hr ih =>
    intro l h
    simp only [U6, hr] at h
    cases h
    rw [ih hr]; rfl
  | case3 a b c d e f r hr ih => intro l h; simp only [U6, hr] at h; cases h
  | case4 cs h1 h2 =>
    intro l h
    unfold U6 at h
    split at h
    · exact absurd rfl h1
    · rename_i a b c d e f r
      exact absurd rfl (h2 a b c d e f r)
    · cases h
def Acv (m : List (Nat × Option Bi)) (nx id n : Nat) (i : Int) (wid k : Nat) : Option (AV × List (Nat × Option Bi) × Nat) :=
  match Al m id, Al m wid with
  | some b, some w => bif Nat.beq b.ty 134 && Nat.beq w.ty 134 then
      (match U6 b.cells, U6 w.cells with
      | some l, some xs => bif Nat.beq l.length n && Nat.beq xs.length k && !Nat.beq id wid && Nat.blt 0 l.length then
          (match Rq 48 l i xs with
          | some y => some (B5 Ag.E nx y, Ae m [(nx, Cs Ag.E 134 y), (wid, none), (id, none)], nx + 64)
          | none => none) else none
      | _, _ => none) else none
  | _, _ => none
def spI : Eh := fun f args m nx => match args with
  | [.sl id 0 6 n n' false, .sc (.int .i64 i), .sl wid 0 6 k k' true] => bif Nat.beq f 197 && Nat.beq n n' && Nat.beq k k' then Acv m nx id n i wid k else none
  | _ => none
theorem zL : Ey Tryz.prog KF.gl spI := by
  intro f args m nx v m' nx' h
  unfold spI at h
  split at h
  · rename_i id n n' i wid k k'
    cases h0 : (Nat.beq f 197 && Nat.beq n n' && Nat.beq k k') with
    | false => rw [h0] at h; cases h
    | true =>
      rw [h0, cond_true] at h
      simp only [Bool.and_eq_true] at h0
      have q1 := Nat.eq_of_beq_eq_true h0.1.1
      have q2 := Nat.eq_of_beq_eq_true h0.1.2
      have q3 := Nat.eq_of_beq_eq_true h0.2
      subst q1; subst q2; subst q3
      unfold Acv at h
      split at h
      · rename_i b w hb hw
        cases h1 : (Nat.beq b.ty 134 && Nat.beq w.ty 134) with
        | false => rw [h1] at h; cases h
        | true =>
          rw [h1, cond_true] at h
          simp only [Bool.and_eq_true] at h1
          have t1 := Nat.eq_of_beq_eq_true h1.1
          have t2 := Nat.eq_of_beq_eq_true h1.2
          split at h
          · rename_i l xs hl hx
            cases h2 : (Nat.beq l.length n && Nat.beq xs.length k && !Nat.beq id wid && Nat.blt 0 l.length) with
            | false => rw [h2] at h; cases h
            | true =>
              rw [h2, cond_true] at h
              simp only [Bool.and_eq_true, Bool.not_eq_true'] at h2
              have l1 := Nat.eq_of_beq_eq_true h2.1.1.1
              have l2 := Nat.eq_of_beq_eq_true h2.1.1.2
              have l3 : id ≠ wid := Nat.ne_of_beq_eq_false h2.1.2
              have l4 : l ≠ [] := by
                have := Nat.le_of_ble_eq_true h2.2
                rintro rfl
                simp at this
              split at h
              · rename_i y hy
                cases h
                have hb' : Al m id = Cs Ag.E 134 l := by
                  rw [C1 l4, hb, ← Wt hl, ← t1]
                have hw' : Al m wid = some ⟨Ay Ag.E xs, 134⟩ := by
                  rw [hw, ← Wt hx, ← t2]
                have key := Gf (k := fun v m' => v = B5 Ag.E nx y ∧ m' = Ae m [(nx, Cs Ag.E 134 y), (wid, none), (id, none)]) (Aa6 (n := nx) (look := Al m) (l0 := l) (xs0 := xs) rfl hb' rfl hw' l3 hy) ⟨rfl, rfl⟩
                rw [Dx l4] at key
                have ea : ([.sl id 0 Ag.E.size l.length l.length false, Aa i, Eu Ag.E wid xs] : List AV) = [.sl id 0 6 n n false, .sc (.int .i64 i), .sl wid 0 6 k k true] := by
                  unfold Eu
                  rw [l1, l2]
                  rfl
                rw [ea] at key
                refine ⟨key.1, fun B c vals g hgl hM ha hr => (key.2 B c vals g hgl hM ha hr).mono ?_⟩
                rintro e w' ⟨v, m', ⟨rfl, rfl⟩, hp⟩
                exact hp
              · cases h
          · cases h
      · cases h
  · cases h
theorem Hx {α : Type} {b : Bool} {x : Option α} {y : α} (h : (bif b then x else none) = some y) : b = true ∧ x = some y := by
  cases b
  · cases h
  · exact ⟨rfl, h⟩
def tO : AV → Option (List Ag)
  | .Dm n cs false => match U6 cs with
    | some l => bif Nat.beq l.length n then some l else none
    | none => none
  | _ => none
theorem dF {a : AV} {l : List Ag} (h : tO a = some l) : a = Am Ag.E l := by
  unfold tO at h
  split at h
  · rename_i n cs
    split at h
    · rename_i l' hl
      obtain ⟨h1, h2⟩ := Hx h
      cases h2
      rw [Wt hl, ← Nat.eq_of_beq_eq_true h1]
    · cases h
  · cases h
def cf0 : Eh := fun f args m nx => match args with
  | [a, b, .agg [.sc (.int .i64 x), .sc (.int .i64 y)]] => bif Nat.beq f 27 then (tO a).bind fun l => (tO b).bind fun k => (g27 1000 l k (⟨x, y⟩ : G7)).map fun z => (.tup [Aa z.1, Aa z.2], m, nx) else none
  | _ => none
theorem kS : Ey Tryz.prog KF.gl cf0 := by
  intro f args m nx v m' nx' h
  unfold cf0 at h
  split at h
  · obtain ⟨hf, h1⟩ := Hx h
    obtain ⟨l, hl, h2⟩ := Option.bind_eq_some_iff.1 h1
    obtain ⟨k, hk, h3⟩ := Option.bind_eq_some_iff.1 h2
    obtain ⟨z, hz, e⟩ := Option.map_eq_some_iff.1 h3
    cases e
    rw [Nat.eq_of_beq_eq_true hf, dF hl, dF hk]
    exact Ew (K := KF) (Afg hz)
  · cases h
def Ae7 : Ao := ⟨60, 60, 60, 60, 120, 60, 60, 60, 180, 120, 90, 60, 240, 180, 120, 120⟩
def ints : List AV → Option (List Int)
  | [] => some []
  | .sc (.int .i64 z) :: r => match ints r with
    | some l => some (z :: l)
    | none => none
  | _ => none
theorem eD : ∀ {cs : List AV} {l : List Int}, ints cs = some l → cs = l.map Aa
  | [], l, h => by cases h; rfl
  | c :: r, l, h => by
    unfold ints at h
    split at h
    · rename_i e; cases e
    · rename_i z r' e
      cases e
      split at h
      · rename_i k hk
        cases h
        rw [eD hk]; rfl
      · cases h
    · cases h
def Aft : List Int := [60, 60, 60, 60, 120, 60, 60, 60, 180, 120, 90, 60, 240, 180, 120, 120]
theorem lH : Zi 100 Ae7 = some 0 := by decide +kernel
def wk : Eh := fun f args m nx => match args with
  | [.agg cs] => bif Nat.beq f 39 then (match ints cs with
    | some l => bif l == Aft then some (Aa 0, m, nx) else none
    | none => none) else none
  | _ => none
theorem Acm : Ey Tryz.prog KF.gl wk := by
  intro f args m nx v m' nx' h
  unfold wk at h
  split at h
  · obtain ⟨hf, h1⟩ := Hx h
    split at h1
    · rename_i l hl
      obtain ⟨h2, h3⟩ := Hx h1
      cases h3
      rw [Nat.eq_of_beq_eq_true hf, eD hl, eq_of_beq h2]
      exact Ew (K := KF) (yI lH)
    · cases h1
  · cases h
def spT : Eh := fun f args m nx =>
  bif Nat.beq f 39 then wk f args m nx else
  bif Nat.beq f 27 then (match Ev cf0 (Al m) f args with
    | some (v, []) => some (v, m, nx)
    | _ => none) else spI f args m nx
theorem Vd : Ey Tryz.prog KF.gl spT := by
  intro f args m nx v m' nx' h
  unfold spT at h
  cases hw : Nat.beq f 39 with
  | true => rw [hw, cond_true] at h; exact Acm _ _ _ _ _ _ _ h
  | false =>
  rw [hw, cond_false] at h
  cases hf : Nat.beq f 27 with
  | false => rw [hf, cond_false] at h; exact zL _ _ _ _ _ _ _ h
  | true =>
    rw [hf, cond_true] at h
    split at h
    · rename_i v0 hp
      simp only [Option.some.injEq, Prod.mk.injEq] at h
      obtain ⟨rfl, rfl, rfl⟩ := h
      obtain ⟨-, hpl⟩ := Jb kS hp
      refine ⟨hpl, fun B c vals g hgl hM ha hr => ?_⟩
      refine (G0 kS g hgl (look := Al m) (fun id b hb => by rw [hM]; exact hb) hr hp).2.2.mono ?_
      rintro e w' ⟨v', c', k1, k2, k3, k4, k5, k6, k7⟩
      exact ⟨v', c', k1, k2, k3, k4, k5, fun id => (k6 id).trans (hM id), fun id hid => ha id ((k7 id).1 hid)⟩
    · cases h
def KS : H0 := ⟨fun f => Nat.beq f 24, KF.gl⟩
end Go.Proofs.YtbfabclpcamlnaaGreatDoor
