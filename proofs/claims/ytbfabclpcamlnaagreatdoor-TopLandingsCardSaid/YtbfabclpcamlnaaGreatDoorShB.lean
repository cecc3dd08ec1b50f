/- A part. -/
import Derived.Test.YtbfabclpcamlnaaGreatDoorShF
set_option linter.unusedVariables false
set_option linter.unusedSimpArgs false
namespace Go.Proofs.YtbfabclpcamlnaaGreatDoor
def zN : Value → Value → Bool
  | .int k z, .int k' z' => decide (k = k') && decide (z = z')
  | .string s, .string s' => decide (s = s')
  | .bool b, .bool b' => b == b'
  | _, _ => false
theorem tB {a b : Value} (h : zN a b = true) : a = b := by
  unfold zN at h
  split at h
  · simp at h; rw [h.1, h.2]
  · simp at h; rw [h]
  · rw [eq_of_beq h]
  · cases h
mutual
def Mh : AV → AV → Bool
  | .sc v, .sc v' => zN v v'
  | .agg l, .agg l' => J7 l l'
  | .tup l, .tup l' => J7 l l'
  | .Dm n l ex, .Dm n' l' ex' => Nat.beq n n' && J7 l l' && (ex == ex')
  | _, _ => false
def J7 : List AV → List AV → Bool
  | [], [] => true
  | x :: xs, y :: ys => Mh x y && J7 xs ys
  | _, _ => false
end
mutual
theorem cA : ∀ (a b : AV), Mh a b = true → a = b
  | .sc v, b, h => by
    cases b <;> simp only [Mh, Bool.false_eq_true] at h
    rw [tB h]
  | .agg l, b, h => by
    cases b <;> simp only [Mh, Bool.false_eq_true] at h
    rw [Hy _ _ h]
  | .tup l, b, h => by
    cases b <;> simp only [Mh, Bool.false_eq_true] at h
    rw [Hy _ _ h]
  | .Dm n l ex, b, h => by
    cases b <;> simp only [Mh, Bool.false_eq_true, Bool.and_eq_true] at h
    obtain ⟨⟨h1, h2⟩, h3⟩ := h
    rw [Nat.eq_of_beq_eq_true h1, Hy _ _ h2, beq_iff_eq.1 h3]
  | .D7, b, h => by simp [Mh] at h
  | .H3, b, h => by simp [Mh] at h
  | .ptr .., b, h => by simp [Mh] at h
  | .B8 .., b, h => by simp [Mh] at h
  | .Cc, b, h => by simp [Mh] at h
  | .sl .., b, h => by simp [Mh] at h
  | .fn .., b, h => by simp [Mh] at h
  | .pX _, b, h => by simp [Mh] at h
theorem Hy : ∀ (a b : List AV), J7 a b = true → a = b
  | [], [], _ => rfl
  | x :: xs, y :: ys, h => by
    simp only [J7, Bool.and_eq_true] at h
    rw [cA _ _ h.1, Hy _ _ h.2]
  | [], _ :: _, h => by simp [J7] at h
  | _ :: _, [], h => by simp [J7] at h
end
def answers (P : Program) (K : H0) (sp : Eh) (k : Nat) (f : FuncId) (args : List AV) (v : AV) : Bool :=
  As args && clean v && (match Ev (Pw P K sp k) (fun _ => none) f args with
    | some (u, []) => Mh u v
    | _ => false)
theorem G6 {P : Program} {K : H0} {sp : Eh} (hm : P.follows .mixedOrders = true) (hsp : Ey P K.gl sp) {k : Nat} {f : FuncId} {args : List AV} {v : AV} (h : answers P K sp k f args v = true) : C3 P K.gl f args v := by
  unfold answers at h
  simp only [Bool.and_eq_true] at h
  obtain ⟨⟨h1, h2⟩, h3⟩ := h
  split at h3
  · rename_i u hp
    rw [cA _ _ h3] at hp
    refine ⟨h1, h2, ⟨(Jb (Kl (K := K) hm hsp k) hp).2, fun B c vals g gl _ hr => ?_⟩⟩
    exact (G0 (Kl (K := K) hm hsp k) g gl (look := fun _ => none) (fun _ _ h => by cases h) hr hp).2.2
  · cases h3
def s1 : ByteArray := ⟨#[65, 49]⟩
def mU : AV := Am Ag.E [⟨0, 0, 0, 9000, 0, 0⟩, ⟨100, 10000, 0, 9000, 0, 0⟩]
def xX : AV := .agg [C6 ⟨#[74, 69, 84]⟩, Aa 1, Aa 40000, Aa 50, Aa 40, Aa 50, Aa 300]
def Adj : List AV := [mU, .agg [C6 s1, Aa 0, Aa 9500, C6 ⟨#[]⟩], Aa 0, xX, .agg [Aa 0, Aa 0]]
def Adc : AV := .tup [Am Ag.E [⟨0, 0, 0, 9000, 0, 0⟩, ⟨10, 1000, 0, 9500, 0, 0⟩, ⟨100, 10000, 0, 9500, 0, 0⟩], Aa 0]
def Ad3 : List (Int × Int) := [(0, 10000), (0, 8000), (2, 115), (2, 85), (1, 1195), (1, 853), (0, 11000), (0, 7000), (2, 130), (2, 70), (1, 1366), (1, 682), (0, 12000), (0, 6000), (2, 145), (2, 55), (1, 1537), (1, 511)]
def xZ : List AV := [C6 s1, mU, Aa 0, xX]
def xK : AV := .tup [.Dm 18 (Ad3.flatMap fun p => [C6 s1, Aa p.1, Aa p.2, C6 ⟨#[]⟩]) false, Aa 0]
def mY : List AV := [mU, .agg [Aa 0, Aa 0], Aa 5]
def o5 : AV := .tup [Am Ag.E [⟨5, 0, 0, 9000, 0, 0⟩, ⟨105, 10000, 0, 9000, 0, 0⟩], Aa 0]
end Go.Proofs.YtbfabclpcamlnaaGreatDoor
