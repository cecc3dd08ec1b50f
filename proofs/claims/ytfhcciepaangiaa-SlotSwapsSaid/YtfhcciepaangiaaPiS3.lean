/- slices.SortFunc at a slice of the run's own: what the caller has afterwards. -/
import Derived.Test.YtfhcciepaangiaaPiS2
set_option linter.unusedVariables false
set_option linter.unusedSimpArgs false
namespace Go.Proofs.Ytfhcciepaangiaa
open Go.RowKit Go.Sort

/- the library's contract, at any elements of k cells -/
def SortsK (P : Program) (f k : Nat) : Prop := ∀ (β : Type) [Inhabited β] (enc : β → List Value) (hk : ∀ x, (enc x).length = k) (h1 : ∀ x, ∀ v ∈ enc x, v.oneCell' = true) (cf : β → β → Int) (hO : SWO (ltOf cf)) (g : Nat) (cb : Array Value) (blk off cap : Nat) (d : Array β) (w : World),
  (∀ args w, (callFunc g args).run P w = .ok (.enter g args) w) → CmpLays P g cb enc k cf blk off d.size w → HoldsK enc k w blk off d → blk < w.heap.size → d.size < 4611686018427387904 →
  Calls P f #[.slice (some ⟨blk, off, none⟩) d.size cap, .func (.func g) #[] cb] w fun e w' => e = .returned (.tuple #[]) ∧ ∃ n os, w' = sortWorldK enc k w blk off n (pdq (ltOf cf) d 0 d.size (Lib.bitLen d.size) true true) os
def sortL {α : Type} [Inhabited α] (cf : α → α → Int) (l : List α) : List α := (pdq (ltOf cf) l.toArray 0 l.toArray.size (Lib.bitLen l.toArray.size) true true).toList
section
variable {α : Type} [Inhabited α]
theorem sortL_facts {cf : α → α → Int} (hO : SWO (ltOf cf)) (l : List α) : (sortL cf l).length = l.length ∧ (sortL cf l).Perm l ∧ (sortL cf l).Pairwise (fun x y => ltOf cf y x = false) := by
  obtain ⟨⟨h1, -, h2⟩, h3⟩ := pdq_sorts (ltOf cf) hO l.toArray 0 l.toArray.size (Lib.bitLen l.toArray.size) true true (Nat.zero_le _) (Nat.le_refl _) (Or.inl rfl)
  refine ⟨by simpa [sortL] using h1, ?_, ?_⟩
  · generalize hd : pdq (ltOf cf) l.toArray 0 l.toArray.size (Lib.bitLen l.toArray.size) true true = d at h1 h2
    have e1 : d.extract 0 l.toArray.size = d := by rw [← h1]; simp
    have e2 : l.toArray.extract 0 l.toArray.size = l.toArray := by simp
    rw [e1, e2] at h2
    have e : sortL cf l = d.toList := by unfold sortL; rw [hd]
    rw [e]
    simpa using h2
  · rw [List.pairwise_iff_getElem]
    intro i j hi hj hij
    have hs : (pdq (ltOf cf) l.toArray 0 l.toArray.size (Lib.bitLen l.toArray.size) true true).size = l.toArray.size := h1
    have hj' : j < l.toArray.size := by rw [← hs]; simpa [sortL] using hj
    have := h3 i j (Nat.zero_le _) hij hj'
    have g1 : (sortL cf l)[i] = (pdq (ltOf cf) l.toArray 0 l.toArray.size (Lib.bitLen l.toArray.size) true true)[i]! := by
      rw [getElem!_pos _ i (by omega)]; simp [sortL]
    have g2 : (sortL cf l)[j] = (pdq (ltOf cf) l.toArray 0 l.toArray.size (Lib.bitLen l.toArray.size) true true)[j]! := by
      rw [getElem!_pos _ j (by omega)]; simp [sortL]
    rw [g1, g2]
    exact this
theorem flat_rel {E : En α} (hE : OkE E) (c : Cx) (d : Array α) : Rels c (encs E d.toList) (flatK (encW E) E.size d).toList := by
  refine Rels.of_get (by rw [encs_length]; simp) fun t x v hx hv => ?_
  have hp := E.pos
  have ht : t < d.size * E.size := by
    have : t < (encs E d.toList).length := by
      rcases Nat.lt_or_ge t (encs E d.toList).length with h | h
      · exact h
      · rw [List.getElem?_eq_none h] at hx; cases hx
    rwa [encs_length, Array.length_toList] at this
  have hq : t / E.size < d.size := Nat.div_lt_of_lt_mul (by rw [Nat.mul_comm]; exact ht)
  have hm : t % E.size < E.size := Nat.mod_lt _ hp
  have he : t / E.size * E.size + t % E.size = t := by rw [Nat.mul_comm]; exact Nat.div_add_mod t E.size
  have h1 := encs_at (E := E) (l := d.toList) (i := t / E.size) (x := d[t / E.size]!) (by rw [Array.getElem?_toList, getElem!_pos d _ hq, Array.getElem?_eq_getElem hq]) (t % E.size) hm
  rw [he, hx] at h1
  have h2 := get_flatK (encW E) E.size d t ht
  have h3 : v = (flatK (encW E) E.size d)[t]! := by
    rw [Array.getElem?_toList] at hv
    have hs : t < (flatK (encW E) E.size d).size := by rw [size_flatK]; exact ht
    rw [Array.getElem?_eq_getElem hs] at hv
    rw [getElem!_pos _ t hs]
    exact (Option.some.inj hv).symm
  obtain ⟨v', hv', hr⟩ := (rels_encW hE c d[t / E.size]!).get h1.symm
  have h4 : (encW E d[t / E.size]!)[t % E.size]! = v' := by
    have hl : t % E.size < (encW E d[t / E.size]!).length := by rw [encW_len]; exact hm
    rw [List.getElem?_eq_getElem hl] at hv'
    rw [getElem!_pos (encW E d[t / E.size]!) (t % E.size) hl]
    exact Option.some.inj hv'
  rw [h3, h2, h4]
  exact hr
theorem enters_of_plain {P : Program} {g : FuncId} (h : Plainly P g) : ∀ args w, (callFunc g args).run P w = .ok (.enter g args) w := by
  obtain ⟨fn, code, h1, h2, h3⟩ := h
  intro args w
  have h3' : ¬ fn.name = "runtime.NumGoroutine" := by simpa using h3
  simp [callFunc, h1, h2, h3']
theorem holds_row {E : En α} (hE : OkE E) {w : World} {blk : Nat} {arr : Array Value} {T : TypeId} {l : List α} {rest : List Value} (hb : w.heap[blk]? = some (.cells arr T)) (hl : ∃ vs, arr.toList = vs ++ rest ∧ ∃ c, Rels c (encs E l) vs) : HoldsK (encW E) E.size w blk 0 l.toArray := by
  intro j hj
  obtain ⟨vs, h1, c, h2⟩ := hl
  have hf := flat_rel hE c l.toArray
  have e1 : vs = (encs E l).map scV := rels_sc (encs_sc hE.sc l) h2
  have e2 : (flatK (encW E) E.size l.toArray).toList = (encs E l).map scV := rels_sc (encs_sc hE.sc _) hf
  have hj' : j < (flatK (encW E) E.size l.toArray).toList.length := by simpa using hj
  refine ⟨?_, ?_⟩
  · show World.cell? _ _ = _
    unfold World.cell?
    simp only [hb, Option.isSome_none, Bool.false_eq_true, if_false, Nat.zero_add]
    rw [← Array.getElem?_toList, h1, e1, ← e2, List.getElem?_append_left hj', List.getElem?_eq_getElem hj']
    simp only [Array.getElem_toList, id]
    rw [getElem!_pos _ j (by simpa using hj')]
  · unfold World.frozen?
    simp only [hb]
    simp
theorem callW_sortK {P : Program} {gl : Nat → Option (List AV)} {f g : FuncId} {E : En α} {k : Nat} (hk : E.size = k) (hE : OkE E) (hS : SortsK P f k) (hpf : Plainly P f) {m : Mem} {nx id ty : Nat} {l : List α} {ex : Bool} (hb : mget m id = some ⟨encs E l, ty⟩) (hn : l.length < 4611686018427387904)
    {caps caps' : List AV} (hc : CapsOk m id caps caps') {cf : α → α → Int} (hO : SWO (ltOf cf)) (hcmp : ∀ x y, Says P gl g (.agg (E.enc x) :: .agg (E.enc y) :: caps') (intA (cf x y))) {K : AV → Mem → Prop} (hK : K (.tup []) (mpushs m [(id, some ⟨encs E (sortL cf l), ty⟩)])) :
    callW P gl m nx f [.sl id 0 k l.length l.length ex, .fn g caps] K := by
  subst hk
  refine ⟨hpf, fun B c vals hg hgl hM ha hr => ?_⟩
  have hMid : c.M id = some ⟨encs E l, ty⟩ := by rw [hM]; exact hb
  cases hr with
  | cons r1 r2 =>
    cases r2 with
    | cons r2 r3 =>
      cases r3
      cases r2 with
      | fn _ hcap =>
        rename_i capv
        cases r1 with
        | sl hal hb2 hs hnc hc2 hex hmx =>
          rename_i cap' arr0 T0
          obtain ⟨arr, vs, rest, q1, q2, q3⟩ := hg.blk id _ hMid
          have hlt := hg.lt hMid
          have hpg : Plainly P g := by
            cases l with
            | nil => exact (hcmp default default).2.2.1
            | cons x l => exact (hcmp x x).2.2.1
          have hcr := caps_rel hg hMid (m := m) (fun j b h => by rw [hM]; exact h) hc hcap
          have hlay := cmp_lays (off := 0) (size := l.toArray.size) hE hg hgl hMid hcr (capsOk_clean hc) hcmp
          have hrow : HoldsK (encW E) E.size c.w (c.f id) 0 l.toArray := holds_row hE q1 ⟨vs, q2, c, q3⟩
          have hcall := hS α (encW E) (encW_len E) (oneCell_encW hE) cf hO g capv.toArray (c.f id) 0 cap' l.toArray c.w (enters_of_plain hpg) hlay hrow hlt (by simpa using hn)
          have e0 : l.toArray.size = l.length := by simp
          rw [e0] at hcall
          refine hcall.mono ?_
          rintro e w' ⟨rfl, n, os, rfl⟩
          have hfacts := sortL_facts hO l
          generalize hd : pdq (ltOf cf) l.toArray 0 l.length (Lib.bitLen l.length) true true = d at *
          have hsl : sortL cf l = d.toList := by simp only [sortL, e0, hd]
          have hbut := sort_but (encW E) E.size c.w (c.f id) 0 n d os
          have hsz : d.size = l.length := by have := hfacts.1; rw [hsl] at this; simpa using this
          obtain ⟨arr', b1, b2⟩ := hbut.blk arr ty q1
          have hold2 := holdsK_sortWorldK_c (encW E) E.size c.w (c.f id) 0 l.toArray d n os hrow hlt (by rw [hsz]; simp)
          generalize sortWorldK (encW E) E.size c.w (c.f id) 0 n d os = W at *
          let c' : Cx := { c with w := W, M := fun j => if j = id then some ⟨encs E (sortL cf l), ty⟩ else c.M j }
          have hown : ∀ b, c'.own b → c.own b := by
            rintro b ⟨j, bk, j1, j2⟩
            by_cases hj : j = id
            · subst hj; exact ⟨j, _, hMid, j2⟩
            · simp only [c', hj, if_false] at j1; exact ⟨j, bk, j1, j2⟩
          have stp : Step c c' := ⟨hbut.os, hbut.tape, hbut.output, hbut.size, fun b hb' hno => hbut.oth b hb' (fun e => hno ⟨id, _, hMid, e.symm⟩), fun b _ ho => hown b ho, fun _ _ => rfl, fun _ h => h, fun _ => Iff.rfl, fun b a T h => by
            by_cases e : b = c.f id
            · subst e; exact hbut.blk a T h
            · exact ⟨a, (hbut.oth b (heap_lt h) e).trans h, rfl⟩, hbut.drawn⟩
          refine ⟨.tup [], _, hK, .tuple #[], c', rfl, rfl, .tup .nil, stp, ⟨Nat.le_trans hg.hB hbut.size, fun j bk h => ?_, fun j bk h => ?_, hg.nol, fun i j bi bj h h' hf => ?_⟩, fun j => ?_, fun j h => Nat.lt_of_lt_of_le (ha j h) (Nat.le_add_right _ _)⟩
          · by_cases hj : j = id
            · subst hj; exact hg.low j _ hMid
            · simp only [c', hj, if_false] at h; exact hg.low j bk h
          · by_cases hj : j = id
            · subst hj
              simp only [c', if_true, Option.some.injEq] at h
              subst h
              refine ⟨arr', (flatK (encW E) E.size d).toList, arr'.toList.drop (d.size * E.size), b1, ?_, ?_⟩
              · have hle : d.size * E.size ≤ arr'.toList.length := by
                  have h5 : vs.length = l.length * E.size := by rw [← q3.length, encs_length]
                  have h6 : arr.toList.length = vs.length + rest.length := by rw [q2, List.length_append]
                  rw [Array.length_toList] at h6 ⊢
                  rw [b2, hsz]; omega
                have h7 : arr'.toList.take (d.size * E.size) = (flatK (encW E) E.size d).toList := by
                  refine List.ext_getElem? fun t => ?_
                  rw [List.getElem?_take]
                  split
                  · rename_i ht
                    have := (hold2 t (by rw [size_flatK]; exact ht)).1
                    unfold World.cell? at this
                    simp only [b1, Option.isSome_none, Bool.false_eq_true, if_false, Nat.zero_add, id] at this
                    rw [Array.getElem?_toList, this, Array.getElem?_toList]
                    have hs2 : t < (flatK (encW E) E.size d).size := by rw [size_flatK]; exact ht
                    rw [Array.getElem?_eq_getElem hs2, getElem!_pos _ t hs2]
                  · rename_i ht
                    rw [Array.getElem?_toList, Array.getElem?_eq_none (by rw [size_flatK]; omega)]
                rw [← h7, List.take_append_drop]
              · show Rels c' (encs E (sortL cf l)) _
                rw [hsl]; exact flat_rel hE c' d
            · simp only [c', hj, if_false] at h
              obtain ⟨a, vs', r', k1, k2, k3⟩ := hg.blk j bk h
              have hne : c.f j ≠ c.f id := fun e => hj (hg.inj j id _ _ h hMid e)
              exact ⟨a, vs', r', (hbut.oth (c.f j) (heap_lt k1) hne).trans k1, k2, k3.step stp⟩
          · have hi : ∃ b, c.M i = some b := by
              by_cases e : i = id
              · subst e; exact ⟨_, hMid⟩
              · simp only [c', e, if_false] at h; exact ⟨_, h⟩
            have hj : ∃ b, c.M j = some b := by
              by_cases e : j = id
              · subst e; exact ⟨_, hMid⟩
              · simp only [c', e, if_false] at h'; exact ⟨_, h'⟩
            obtain ⟨b1', hi⟩ := hi
            obtain ⟨b2', hj⟩ := hj
            exact hg.inj i j b1' b2' hi hj hf
          · show (if j = id then _ else c.M j) = mget ((id, some ⟨encs E (sortL cf l), ty⟩) :: m) j
            by_cases hj : j = id
            · subst hj; rw [if_pos rfl]; simp [mget]
            · rw [if_neg hj, mget_tl (fun e => hj e.symm), hM]
end
end Go.Proofs.Ytfhcciepaangiaa
