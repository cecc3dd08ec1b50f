/- slices.Sort at texts. -/
import Derived.Test.YthjcdlbkdobmiaaPS
import Derived.Shelf.Slices.In.SortAlone
import Derived.Shelf.Slices.In.SortNone
set_option linter.unusedVariables false
set_option linter.unusedSimpArgs false
namespace Go.Proofs.Ythjcdlbkdobmiaa
open Go.RowKit Go.Sort

def SortsS (P : Program) (f : Nat) : Prop := ∀ (blk off cap : Nat) (ss : List (List UInt8)) (w : World), Holds encStr w blk off ss.toArray → blk < w.heap.size → ss.length < 4611686018427387904 →
  Calls P f #[.slice (some ⟨blk, off, none⟩) ss.length cap] w fun e w' => e = .returned (.tuple #[]) ∧ ∃ n os, w' = grow (putRow encStr (Sort.ahead w n) blk off (ss.mergeSort fun x y => decide (x ≤ y)).toArray) os
def SortsSN (P : Program) (f : Nat) : Prop := ∀ (p : Option Addr) (cap : Nat) (w : World), Calls P f #[.slice p 0 cap] w fun e w' => e = .returned (.tuple #[]) ∧ w' = w
def bytesOfS (s : ByteArray) : List UInt8 := s.data.toList
def strOfB (b : List UInt8) : ByteArray := ⟨b.toArray⟩
theorem strOf_bytes (s : ByteArray) : strOfB (bytesOfS s) = s := by simp [strOfB, bytesOfS]
theorem bytesOf_str (b : List UInt8) : bytesOfS (strOfB b) = b := by simp [strOfB, bytesOfS]
def sortS (l : List ByteArray) : List ByteArray := ((l.map bytesOfS).mergeSort fun x y => decide (x ≤ y)).map strOfB
theorem sortS_len (l : List ByteArray) : (sortS l).length = l.length := by simp [sortS, List.length_mergeSort]
theorem sortS_perm (l : List ByteArray) : (sortS l).Perm l := by
  have h := (List.mergeSort_perm (l.map bytesOfS) fun x y => decide (x ≤ y)).map strOfB
  rw [List.map_map] at h
  have : l.map (strOfB ∘ bytesOfS) = l := by
    conv => rhs; rw [← List.map_id l]
    exact List.map_congr_left fun s _ => strOf_bytes s
  rw [this] at h
  exact h
theorem strE_ok : OkE strE := by
  intro x c hc
  simp only [strE, List.mem_singleton] at hc
  subst hc
  exact ⟨_, rfl, rfl⟩
theorem encW_str (s : ByteArray) : encW strE s = [.string s] := rfl
/- one row written with two codings -/
theorem flat_str (d : Array ByteArray) (t : Nat) (ht : t < d.size) : (flatK (encW strE) strE.size d)[t]! = .string d[t]! := by
  have e : strE.size = 1 := rfl
  rw [e, get_flatK _ _ _ _ (by omega)]
  simp [encW_str, Nat.mod_one]
theorem holds_str {w : World} {blk off : Nat} {l : List ByteArray} (h : HoldsK (encW strE) strE.size w blk off l.toArray) : Holds encStr w blk off (l.map bytesOfS).toArray := by
  intro j hj
  have hj' : j < l.length := by simpa using hj
  have := h j (by rw [size_flatK]; show j < l.toArray.size * 1; simp; exact hj')
  rw [flat_str l.toArray j (by simpa using hj')] at this
  have e : encStr (l.map bytesOfS).toArray[j]! = id (Value.string l.toArray[j]!) := by
    rw [getElem!_pos _ j (by simpa using hj'), getElem!_pos _ j (by simpa using hj')]
    simp [encStr, bytesOfS]
  rw [e]; exact this
theorem putRow_str (w : World) (blk off : Nat) (bs : List (List UInt8)) : putRow encStr w blk off bs.toArray = putRowK (encW strE) strE.size w blk off (bs.map strOfB).toArray := by
  unfold putRowK putRow
  congr 1
  funext c
  unfold putCells
  have hs : (flatK (encW strE) strE.size (bs.map strOfB).toArray).size = bs.length := by rw [size_flatK]; show (bs.map strOfB).toArray.size * 1 = _; simp
  congr 1
  funext k x
  rw [hs]
  have hs2 : bs.toArray.size = bs.length := by simp
  rw [hs2]
  by_cases h : off ≤ k ∧ k < off + bs.length
  · rw [if_pos h, if_pos h, flat_str _ _ (by simp; omega)]
    rw [getElem!_pos _ (k - off) (by simp; omega), getElem!_pos _ (k - off) (by simp; omega)]
    simp [encStr, strOfB]
  · rw [if_neg h, if_neg h]
theorem callW_sortStr {P : Program} {gl : Nat → Option (List AV)} {f : FuncId} (hS : SortsS P f) (hS0 : SortsSN P f) (hpf : Plainly P f) {m : Mem} {nx id ty : Nat} {l0 l : List ByteArray} (hl : l0.length = l.length) (hb : mget m id = ownB strE ty l) (hn : l.length < 4611686018427387904)
    {K : AV → Mem → Prop} (hK : K (.tup []) (mpushs m [(id, ownB strE ty (sortS l))])) :
    callW P gl m nx f [ownV strE id l0] K := by
  have hE := strE_ok
  have hlen := sortS_len l
  cases l with
  | nil =>
    have h0 : l0 = [] := List.eq_nil_of_length_eq_zero hl
    subst h0
    refine ⟨hpf, fun B c vals hg hgl hM ha hr => ?_⟩
    cases hr with
    | cons r1 r2 =>
      cases r2
      have key : ∀ (p : Option Addr) (cap : Nat), Calls P f #[.slice p 0 cap] c.w fun e w' => ∃ v m', K v m' ∧ CallPost B c v m' (nx + 64) e w' := fun p cap => (hS0 p cap c.w).mono fun e w' ⟨h1, h2⟩ => by
        subst h1; subst h2
        refine ⟨.tup [], _, hK, .tuple #[], c, rfl, rfl, .tup .nil, Step.refl c, hg, fun j => ?_, fun j h => Nat.lt_of_lt_of_le (ha j h) (Nat.le_add_right _ _)⟩
        have e : sortS [] = [] := List.eq_nil_of_length_eq_zero hlen
        rw [e]
        show c.M j = mget ((id, none) :: m) j
        rw [hM]
        by_cases hj : j = id
        · subst hj; rw [mget_hd, hb]; rfl
        · rw [mget_tl (fun e => hj e.symm)]
      have r1 : VRel c (.lst 0 [] true) _ := r1
      cases r1 with
      | lst0 a cap ex he hm hn => exact key a cap
      | lst hb h hc hn he hm => exact key _ _
  | cons x l1 =>
    have hne : l0 ≠ [] := by rintro rfl; simp at hl
    have hne' : sortS (x :: l1) ≠ [] := by intro e; rw [e] at hlen; simp at hlen
    rw [ownB_ne (by simp)] at hb
    rw [ownB_ne hne'] at hK
    rw [ownV_ne hne, hl]
    generalize hL : x :: l1 = l at *
    refine ⟨hpf, fun B c vals hg hgl hM ha hr => ?_⟩
    have hMid : c.M id = some ⟨encs strE l, ty⟩ := by rw [hM]; exact hb
    cases hr with
    | cons r1 r2 =>
      cases r2
      cases r1 with
      | sl hal hb2 hs hnc hc2 hex hmx =>
        rename_i cap' arr0 T0
        obtain ⟨arr, vs, rest, q1, q2, q3⟩ := hg.blk id _ hMid
        have hlt := hg.lt hMid
        have hrow : HoldsK (encW strE) strE.size c.w (c.f id) 0 l.toArray := holds_row hE q1 ⟨vs, q2, c, q3⟩
        have hcall := hS (c.f id) 0 cap' (l.map bytesOfS) c.w (holds_str hrow) hlt (by simpa using hn)
        rw [List.length_map] at hcall
        refine hcall.mono ?_
        rintro e w' ⟨rfl, n, os, rfl⟩
        rw [putRow_str]
        have hsl : sortS l = (((l.map bytesOfS).mergeSort fun x y => decide (x ≤ y)).map strOfB) := rfl
        rw [← hsl]
        have hW : grow (putRowK (encW strE) strE.size (Sort.ahead c.w n) (c.f id) 0 (sortS l).toArray) os = sortWorldK (encW strE) strE.size c.w (c.f id) 0 n (sortS l).toArray os := rfl
        rw [hW]
        generalize hd : (sortS l).toArray = d at *
        have hsd : sortS l = d.toList := by rw [← hd]
        have hbut := sort_but (encW strE) strE.size c.w (c.f id) 0 n d os
        have hsz : d.size = l.length := by rw [← hd]; simpa using hlen
        obtain ⟨arr', b1, b2⟩ := hbut.blk arr ty q1
        have hold2 := holdsK_sortWorldK_c (encW strE) strE.size c.w (c.f id) 0 l.toArray d n os hrow hlt (by rw [hsz]; simp)
        generalize sortWorldK (encW strE) strE.size c.w (c.f id) 0 n d os = W at *
        let c' : Cx := { c with w := W, M := fun j => if j = id then some ⟨encs strE (sortS l), ty⟩ else c.M j }
        have hown : ∀ b, c'.own b → c.own b := by
          rintro b ⟨j, bk, j1, j2⟩
          by_cases hj : j = id
          · subst hj; exact ⟨j, _, hMid, j2⟩
          · simp only [c', hj, if_false] at j1; exact ⟨j, bk, j1, j2⟩
        have stp : Step c c' := ⟨hbut.os, hbut.tape, hbut.output, hbut.size, fun b hb' hno => hbut.oth b hb' (fun e => hno ⟨id, _, hMid, e.symm⟩), fun b _ ho => hown b ho, fun _ _ => rfl, fun _ h => h, fun _ => Iff.rfl, fun b a T h => by
          by_cases e : b = c.f id
          · subst e; exact hbut.blk a T h
          · exact ⟨a, (hbut.oth b (heap_lt h) e).trans h, rfl⟩, dr_le hbut.drawn⟩
        refine ⟨.tup [], _, hK, .tuple #[], c', rfl, rfl, .tup .nil, stp, ⟨Nat.le_trans hg.hB hbut.size, fun j bk h => ?_, fun j bk h => ?_, hg.nol, fun i j bi bj h h' hf => ?_⟩, fun j => ?_, fun j h => Nat.lt_of_lt_of_le (ha j h) (Nat.le_add_right _ _)⟩
        · by_cases hj : j = id
          · subst hj; exact hg.low j _ hMid
          · simp only [c', hj, if_false] at h; exact hg.low j bk h
        · by_cases hj : j = id
          · subst hj
            simp only [c', if_true, Option.some.injEq] at h
            subst h
            refine ⟨arr', (flatK (encW strE) strE.size d).toList, arr'.toList.drop (d.size * strE.size), b1, ?_, ?_⟩
            · have hle : d.size * strE.size ≤ arr'.toList.length := by
                have h5 : vs.length = l.length * strE.size := by rw [← q3.length, encs_length]
                have h6 : arr.toList.length = vs.length + rest.length := by rw [q2, List.length_append]
                rw [Array.length_toList] at h6 ⊢
                rw [b2, hsz]; omega
              have h7 : arr'.toList.take (d.size * strE.size) = (flatK (encW strE) strE.size d).toList := by
                refine List.ext_getElem? fun t => ?_
                rw [List.getElem?_take]
                split
                · rename_i ht
                  have := (hold2 t (by rw [size_flatK]; exact ht)).1
                  unfold World.cell? at this
                  simp only [b1, Option.isSome_none, Bool.false_eq_true, if_false, Nat.zero_add, id] at this
                  rw [Array.getElem?_toList, this, Array.getElem?_toList]
                  have hs2 : t < (flatK (encW strE) strE.size d).size := by rw [size_flatK]; exact ht
                  rw [Array.getElem?_eq_getElem hs2, getElem!_pos _ t hs2]
                · rename_i ht
                  rw [Array.getElem?_toList, Array.getElem?_eq_none (by rw [size_flatK]; omega)]
              rw [← h7, List.take_append_drop]
            · show Rels c' (encs strE (sortS l)) _
              rw [hsd]; exact flat_rel hE c' d
          · simp only [c', hj, if_false] at h
            obtain ⟨a, vs', r', k1, k2, k3⟩ := hg.blk j bk h
            have hne : c.f j ≠ c.f id := fun e => hj (hg.inj j id _ _ h hMid e)
            exact ⟨a, vs', r', (hbut.oth (c.f j) (heap_lt k1) hne).trans k1, k2, k3.step stp⟩
        · have hi : ∃ b, c.M i = some b := by
            by_cases e : i = id
            · subst e; exact ⟨_, hMid⟩
            · simp only [c', e, if_false] at h; exact ⟨_, h⟩
          have hj : ∃ b, c.M j = some b := by
            by_cases e : j = id
            · subst e; exact ⟨_, hMid⟩
            · simp only [c', e, if_false] at h'; exact ⟨_, h'⟩
          obtain ⟨b1', hi⟩ := hi
          obtain ⟨b2', hj⟩ := hj
          exact hg.inj i j b1' b2' hi hj hf
        · show (if j = id then _ else c.M j) = mget ((id, some ⟨encs strE (sortS l), ty⟩) :: m) j
          by_cases hj : j = id
          · subst hj; rw [if_pos rfl]; simp [mget]
          · rw [if_neg hj, mget_tl (fun e => hj e.symm), hM]
end Go.Proofs.Ythjcdlbkdobmiaa
