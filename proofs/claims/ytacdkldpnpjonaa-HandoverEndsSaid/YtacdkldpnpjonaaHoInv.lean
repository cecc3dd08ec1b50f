/- The handover protocol: what holds of two sides and of the messages in transit, whatever the channels do. Plain. -/
import Derived.Test.YtacdkldpnpjonaaHoStep
set_option linter.unusedVariables false
set_option linter.unusedSimpArgs false
namespace Go.Proofs.Ytacdkldpnpjonaa

def MsgOk (i k : Int) (giving : Prop) (c : Int) (x : Bool × Int) : Prop :=
  1 ≤ x.2 ∧ (x.1 = false → x.2 % 2 = i ∧ (x.2 ≤ k ∨ (x.2 = k + 1 ∧ giving))) ∧ (x.1 = true → x.2 % 2 = 1 - i ∧ x.2 ≤ c)
/- side i is responsible, at count k; the other one rests at k, or still gives its transfer number k -/
def Core (i k sx cx sy cy : Int) (mx my : List (Bool × Int)) : Prop :=
  0 ≤ k ∧ k % 2 = i ∧ (sx = 1 ∨ sx = 2) ∧ cx = k ∧ ((sy = 0 ∧ cy = k) ∨ (sy = 2 ∧ cy = k - 1 ∧ 1 ≤ k)) ∧
  (∀ x ∈ mx, MsgOk i k (sx = 2) cy x) ∧ (∀ x ∈ my, MsgOk (1 - i) k (sx = 2) cx x) ∧ mx.length ≤ 40 ∧ my.length ≤ 40
def Inv (k s0 c0 s1 c1 : Int) (m0 m1 : List (Bool × Int)) : Prop := Core 0 k s0 c0 s1 c1 m0 m1 ∨ Core 1 k s1 c1 s0 c0 m1 m0

theorem sendM_len (m : List (Bool × Int)) (x : Bool × Int) (h : m.length ≤ 40) : (sendM m x).length ≤ 40 := by
  unfold sendM; split
  · simp; omega
  · exact h
theorem sendM_all {P : Bool × Int → Prop} (m : List (Bool × Int)) (x : Bool × Int) (h : ∀ y ∈ m, P y) (hx : P x) : ∀ y ∈ sendM m x, P y := by
  unfold sendM; split
  · intro y hy
    rcases List.mem_append.1 hy with h1 | h1
    · exact h y h1
    · rw [List.mem_singleton.1 h1]; exact hx
  · exact h
theorem erase_all {P : Bool × Int → Prop} (m : List (Bool × Int)) (q : Nat) (h : ∀ y ∈ m, P y) : ∀ y ∈ m.eraseIdx q, P y :=
  fun y hy => h y (List.mem_of_mem_eraseIdx hy)
theorem erase_len (m : List (Bool × Int)) (q : Nat) (h : m.length ≤ 40) : (m.eraseIdx q).length ≤ 40 := by
  have := List.length_eraseIdx_le m q; omega

theorem core_chkX {i k sx cx sy cy : Int} {mx my : List (Bool × Int)} (h : Core i k sx cx sy cy mx my) (hk : k ≤ 2000) : chk sx cx = 0 := by
  obtain ⟨h0, h1, h2, h3, -⟩ := h
  exact (chk_zero _ _).2 (by omega)
theorem core_chkY {i k sx cx sy cy : Int} {mx my : List (Bool × Int)} (h : Core i k sx cx sy cy mx my) (hk : k ≤ 2000) : chk sy cy = 0 := by
  obtain ⟨h0, h1, h2, h3, h4, -⟩ := h
  exact (chk_zero _ _).2 (by omega)

theorem give_not {s c : Int} (h : chk s c = 0) (hs : s ≠ 1) : (give s c).er = 11 := by
  unfold give; rw [if_neg (by omega), if_pos hs]
theorem give_yes {c : Int} (h : chk 1 c = 0) (hc : c ≠ 2000) : give 1 c = ⟨2, c, c + 1, 0⟩ := by
  unfold give; rw [if_neg (by omega), if_neg (by omega), if_neg hc]
theorem again_not {s c : Int} (h : chk s c = 0) (hs : s ≠ 2) : (again s c).2 = 11 := by
  unfold again; rw [if_neg (by omega), if_pos hs]
theorem again_yes {c : Int} (h : chk 2 c = 0) : again 2 c = (c + 1, 0) := by
  unfold again; rw [if_neg (by omega), if_neg (by omega)]

theorem core_give {i k cx sy cy : Int} {mx my : List (Bool × Int)} (h : Core i k 1 cx sy cy mx my) : Core i k 2 cx sy cy mx (sendM my (false, cx + 1)) := by
  obtain ⟨h0, h1, h2, h3, h4, h5, h6, h7, h8⟩ := h
  refine ⟨h0, h1, .inr rfl, h3, h4, ?_, sendM_all _ _ ?_ ?_, h7, sendM_len _ _ h8⟩
  · intro x hx
    obtain ⟨a, b, c⟩ := h5 x hx
    exact ⟨a, fun e => ⟨(b e).1, (b e).2.imp id (fun q => ⟨q.1, rfl⟩)⟩, c⟩
  · intro x hx
    obtain ⟨a, b, c⟩ := h6 x hx
    exact ⟨a, fun e => ⟨(b e).1, (b e).2.imp id (fun q => ⟨q.1, rfl⟩)⟩, c⟩
  · exact ⟨by simp only []; omega, fun _ => ⟨by simp only []; omega, .inr ⟨by simp only []; omega, rfl⟩⟩, fun e => by cases e⟩
theorem core_againX {i k cx sy cy : Int} {mx my : List (Bool × Int)} (h : Core i k 2 cx sy cy mx my) : Core i k 2 cx sy cy mx (sendM my (false, cx + 1)) := by
  obtain ⟨h0, h1, h2, h3, h4, h5, h6, h7, h8⟩ := h
  refine ⟨h0, h1, h2, h3, h4, h5, sendM_all _ _ h6 ?_, h7, sendM_len _ _ h8⟩
  exact ⟨by simp only []; omega, fun _ => ⟨by simp only []; omega, .inr ⟨by simp only []; omega, rfl⟩⟩, fun e => by cases e⟩
theorem core_againY {i k sx cx cy : Int} {mx my : List (Bool × Int)} (h : Core i k sx cx 2 cy mx my) : Core i k sx cx 2 cy (sendM mx (false, cy + 1)) my := by
  obtain ⟨h0, h1, h2, h3, h4, h5, h6, h7, h8⟩ := h
  refine ⟨h0, h1, h2, h3, h4, sendM_all _ _ h5 ?_, h6, sendM_len _ _ h7, h8⟩
  exact ⟨by simp only []; omega, fun _ => ⟨by simp only []; omega, .inl (by simp only []; omega)⟩, fun e => by cases e⟩

theorem hear_eq {s c n : Int} {a : Bool} (h : chk s c = 0) (hn : 1 ≤ n) (hn2 : n ≤ 2000) : hear s c n a = (if a = true then (if s = 2 ∧ n = c + 1 then ⟨0, n, false, 0, false, 0⟩ else ⟨s, c, false, 0, false, 0⟩) else
      if s = 2 ∧ n = c + 2 then ⟨1, n, true, n, true, 0⟩ else
      if s = 0 ∧ n = c + 1 then ⟨1, n, true, n, true, 0⟩ else
      if n ≤ c then ⟨s, c, true, n, true, 0⟩ else ⟨s, c, false, 0, false, 0⟩) := by
  unfold hear; rw [if_neg (by omega), if_neg (by omega)]

/- a message that the responsible side hears: its state stays; mx' is what is left of its channel -/
theorem core_hearX {i k sx cx sy cy n : Int} {a : Bool} {mx my mx' : List (Bool × Int)} (h : Core i k sx cx sy cy mx my) (hk : k < 2000) (hx : (a, n) ∈ mx) (hm : ∀ y ∈ mx', y ∈ mx) (hl : mx'.length ≤ 40) :
    ∃ r, hear sx cx n a = r ∧ r.er = 0 ∧ Core i k r.st r.ct sy cy mx' (if r.is = true then sendM my (r.ak, r.nm) else my) := by
  have hc := core_chkX h (by omega)
  obtain ⟨h0, h1, h2, h3, h4, h5, h6, h7, h8⟩ := h
  obtain ⟨q1, q2, q3⟩ := h5 _ hx
  simp only [] at q1 q2 q3
  cases a with
  | true =>
    obtain ⟨q4, q5⟩ := q3 rfl
    refine ⟨_, rfl, ?_⟩
    rw [hear_eq hc q1 (by omega), if_pos rfl, if_neg (by omega)]
    exact ⟨rfl, h0, h1, h2, h3, h4, fun y hy => h5 y (hm y hy), h6, hl, h8⟩
  | false =>
    obtain ⟨q4, q5⟩ := q2 rfl
    have q6 : n ≤ k := by omega
    refine ⟨_, rfl, ?_⟩
    rw [hear_eq hc q1 (by omega), if_neg (by decide), if_neg (by omega), if_neg (by omega), if_pos (by omega)]
    refine ⟨rfl, h0, h1, h2, h3, h4, fun y hy => h5 y (hm y hy), ?_, hl, sendM_len _ _ h8⟩
    rw [if_pos rfl]
    exact sendM_all _ _ h6 ⟨q1, (fun e => by cases e), fun _ => ⟨by simp only []; omega, by simp only []; omega⟩⟩
/- a message that the other side hears -/
theorem core_hearY {i k sx cx sy cy n : Int} {a : Bool} {mx my my' : List (Bool × Int)} (h : Core i k sx cx sy cy mx my) (hk : k < 1999) (hx : (a, n) ∈ my) (hm : ∀ y ∈ my', y ∈ my) (hl : my'.length ≤ 40) :
    ∃ r, hear sy cy n a = r ∧ r.er = 0 ∧ (Core i k sx cx r.st r.ct (if r.is = true then sendM mx (r.ak, r.nm) else mx) my' ∨ Core (1 - i) (k + 1) r.st r.ct sx cx my' (if r.is = true then sendM mx (r.ak, r.nm) else mx)) := by
  have hc := core_chkY h (by omega)
  obtain ⟨h0, h1, h2, h3, h4, h5, h6, h7, h8⟩ := h
  obtain ⟨q1, q2, q3⟩ := h6 _ hx
  simp only [] at q1 q2 q3
  cases a with
  | true =>
    obtain ⟨q4, q5⟩ := q3 rfl
    by_cases hs : sy = 2 ∧ n = cy + 1
    · refine ⟨_, rfl, ?_⟩
      rw [hear_eq hc q1 (by omega), if_pos rfl, if_pos hs]
      refine ⟨rfl, .inl ⟨h0, h1, h2, h3, .inl ⟨rfl, by simp only []; omega⟩, ?_, fun y hy => h6 y (hm y hy), h7, hl⟩⟩
      intro y hy
      obtain ⟨a1, a2, a3⟩ := h5 y (by simpa using hy)
      exact ⟨a1, a2, fun e => ⟨(a3 e).1, by have := (a3 e).2; simp only []; omega⟩⟩
    · refine ⟨_, rfl, ?_⟩
      rw [hear_eq hc q1 (by omega), if_pos rfl, if_neg hs]
      exact ⟨rfl, .inl ⟨h0, h1, h2, h3, h4, by simpa using h5, fun y hy => h6 y (hm y hy), by simpa using h7, hl⟩⟩
  | false =>
    obtain ⟨q4, q5⟩ := q2 rfl
    by_cases hn : n = k + 1
    · have hg : sx = 2 := by
        rcases q5 with q5 | q5
        · omega
        · exact q5.2
      have hr : hear sy cy n false = ⟨1, n, true, n, true, 0⟩ := by
        rw [hear_eq hc q1 (by omega), if_neg (by decide)]
        rcases h4 with h4 | h4
        · rw [if_neg (by omega), if_pos (by omega)]
        · rw [if_pos (by omega)]
      refine ⟨_, rfl, ?_⟩
      rw [hr]
      refine ⟨rfl, .inr ⟨by omega, by omega, .inl rfl, by simp only []; omega, .inr ⟨hg, by omega, by omega⟩, ?_, ?_, hl, ?_⟩⟩
      · intro y hy
        obtain ⟨a1, a2, a3⟩ := h6 y (hm y hy)
        exact ⟨a1, fun e => ⟨(a2 e).1, by have := (a2 e).2; left; omega⟩, a3⟩
      · rw [if_pos rfl]
        refine sendM_all _ _ ?_ ⟨q1, (fun e => by cases e), fun _ => ⟨by simp only []; omega, by simp only []; omega⟩⟩
        intro y hy
        obtain ⟨a1, a2, a3⟩ := h5 y hy
        exact ⟨a1, fun e => ⟨by have := (a2 e).1; omega, by have := (a2 e).2; left; omega⟩, fun e => ⟨by have := (a3 e).1; omega, by have := (a3 e).2; simp only []; omega⟩⟩
      · rw [if_pos rfl]; exact sendM_len _ _ h7
    · have hr : hear sy cy n false = ⟨sy, cy, true, n, true, 0⟩ := by
        rw [hear_eq hc q1 (by omega), if_neg (by decide), if_neg (by omega), if_neg (by omega), if_pos (by omega)]
      refine ⟨_, rfl, ?_⟩
      rw [hr]
      refine ⟨rfl, .inl ⟨h0, h1, h2, h3, h4, ?_, fun y hy => h6 y (hm y hy), ?_, hl⟩⟩
      · rw [if_pos rfl]
        exact sendM_all _ _ h5 ⟨q1, (fun e => by cases e), fun _ => ⟨by simp only []; omega, by simp only []; omega⟩⟩
      · rw [if_pos rfl]; exact sendM_len _ _ h7

theorem core_rank {i k sx cx sy cy : Int} {mx my : List (Bool × Int)} (h : Core i k sx cx sy cy mx my) : rank sy cy < rank sx cx := by
  obtain ⟨h0, h1, h2, h3, h4, -⟩ := h
  unfold rank
  rw [if_neg (by omega : ¬ sx = 0)]
  split <;> omega

end Go.Proofs.Ytacdkldpnpjonaa
