/- JointMore, on plain values; how much the rows of an argument weigh; JointMore as a contract. -/
import Derived.Test.YtlgbioidkbeanaaTj7
import Derived.Test.YtlgbioidkbeanaaJmo
import Derived.Test.YtlgbioidkbeanaaPi23
import Derived.SizedLaws
import Derived.ProofKit
import Derived.WalkKit
import Derived.OpenShut
set_option linter.unusedVariables false
set_option linter.unusedSimpArgs false
namespace Go.Proofs.Ytlgbioidkbeanaa
theorem pick_totM (n : Nat) (a : Int) (m : Nat) (h0 : 0 < m) (h1 : m ≤ 4611686018427387904) : ∃ p : Nat, g14 n a (m : Int) = some (p : Int) ∧ p < m := by
  unfold g14
  have hm : IntKind.wrap .u64 (m : Int) = (m : Int) := by simp [IntKind.wrap, IntKind.signed, IntKind.bits]; omega
  have ha : 0 ≤ IntKind.wrap .u64 a := by simp [IntKind.wrap, IntKind.signed, IntKind.bits]; omega
  generalize IntKind.wrap .u64 a = b at ha
  have ht : Int.tmod b (m : Int) = ((b.toNat % m : Nat) : Int) := by
    obtain ⟨q, rfl⟩ := Int.eq_ofNat_of_zero_le ha
    rw [Int.tmod_eq_emod_of_nonneg ha, Int.toNat_natCast]; simp
  have hlt : b.toNat % m < m := Nat.mod_lt _ h0
  refine ⟨b.toNat % m, ?_, hlt⟩
  rw [hm]
  unfold modO
  rw [ht]
  have : ¬ ((m : Int) = 0) := by omega
  simp only [this, if_false, decide_false, cond_false, Option.bind_some]
  rw [wrap64 (by omega) (by omega)]
/- a longer row of options -/
def addO (l : List (List TJointOption)) (P : Nat) (o : TJointOption) : List (List TJointOption) := l.set P (l.getD P [] ++ [o])
theorem addO_len (l : List (List TJointOption)) (P : Nat) (o : TJointOption) : (addO l P o).length = l.length := by simp [addO]
theorem addO_get {l : List (List TJointOption)} {P : Nat} {o : TJointOption} (hP : P < l.length) (i : Nat) : ∃ t, (addO l P o).getD i [] = l.getD i [] ++ t := by
  unfold addO
  by_cases h : i = P
  · subst h
    exact ⟨[o], by simp [List.getD, hP]⟩
  · exact ⟨[], by simp [List.getD, List.getElem?_set_ne (Ne.symm h)]⟩
theorem addO_at {l : List (List TJointOption)} {P : Nat} {o : TJointOption} (hP : P < l.length) {i m : Nat} (hm : m < (l.getD i []).length) (d : TJointOption) : ((addO l P o).getD i []).getD m d = (l.getD i []).getD m d ∧ m < ((addO l P o).getD i []).length := by
  obtain ⟨t, ht⟩ := addO_get (o := o) hP i
  rw [ht]
  generalize l.getD i [] = r at *
  exact ⟨by simp [List.getD, List.getElem?_append_left hm], by simp; omega⟩
theorem addO_clF {n : Nat} {l : List (List TJointOption)} {P : Nat} {o : TJointOption} {s : TSep} (hP : P < l.length) {i k m q : Nat} (hi : i < l.length) (hk : k < l.length) (hm : m < (l.getD i []).length) (hq : q < (l.getD k []).length) : clF n (addO l P o) s i k m q = clF n l s i k m q := by
  have get : ∀ j, j < l.length → ∃ t, (addO l P o)[j]? = some (l.getD j [] ++ t) ∧ l[j]? = some (l.getD j []) := fun j hj => by
    obtain ⟨t, ht⟩ := addO_get (o := o) hP j
    have h1 : (addO l P o)[j]? = some ((addO l P o).getD j []) := by
      have : j < (addO l P o).length := by rw [addO_len]; exact hj
      simp [List.getD, this]
    exact ⟨t, by rw [h1, ht], by simp [List.getD, hj]⟩
  obtain ⟨t1, a1, a2⟩ := get i hi
  obtain ⟨t2, b1, b2⟩ := get k hk
  unfold clF clO
  rw [a1, a2, b1, b2]
  simp only [Option.bind_some, List.getElem?_append_left hm, List.getElem?_append_left hq]
/- what is free stays free -/
theorem ev_free {l l2 : List (List TJointOption)} {cl2 : Nat → Nat → Nat → Nat → Bool} : ∀ (k : Nat) (c t : List Int), c.length + k = l.length → t.length = k → Cho l (c ++ t) → l2.length = l.length → (∀ j, ((l.getD j []).length) ≤ ((l2.getD j []).length)) → Clear cl2 (c ++ t) → (c ++ t, none) ∈ ev l2 cl2 k c
  | 0, c, t, hk, ht, hc, h2, hle, hcl => by
    obtain rfl : t = [] := List.eq_nil_of_length_eq_zero ht
    rw [List.append_nil] at hcl ⊢
    unfold ev
    rw [if_neg]
    · simp
    · rintro ⟨hne, hw⟩
      obtain ⟨h3, h4⟩ := with_pos hw
      have hlen : 0 < c.length := List.length_pos_iff.2 hne
      have := hcl (withF cl2 c).toNat (c.length - 1) (by omega) (by omega)
      rw [h4] at this
      cases this
  | k + 1, c, t, hk, ht, hc, h2, hle, hcl => by
    cases t with
    | nil => simp at ht
    | cons x t =>
      unfold ev
      rw [if_neg]
      · have hx := hc.2 c.length x (by simp)
        refine List.mem_flatMap.2 ⟨x.toNat, List.mem_range.2 (by have := hle c.length; omega), ?_⟩
        rw [Int.toNat_of_nonneg hx.1]
        have e : c ++ x :: t = (c ++ [x]) ++ t := by simp
        rw [e] at hc hcl ⊢
        exact ev_free k (c ++ [x]) t (by simp; omega) (by simpa using ht) hc h2 hle hcl
      · rintro ⟨hne, hw⟩
        obtain ⟨h3, h4⟩ := with_pos hw
        have hlen : 0 < c.length := List.length_pos_iff.2 hne
        have e := hcl (withF cl2 c).toNat (c.length - 1) (by omega) (by simp; omega)
        have g1 : (c ++ x :: t).getD (withF cl2 c).toNat 0 = c.getD (withF cl2 c).toNat 0 := by simp [List.getD, List.getElem?_append_left (show (withF cl2 c).toNat < c.length by omega)]
        have g2 : (c ++ x :: t).getD (c.length - 1) 0 = c.getD (c.length - 1) 0 := by simp [List.getD, List.getElem?_append_left (show c.length - 1 < c.length by omega)]
        rw [g1, g2, h4] at e
        cases e
theorem addO_cost {l : List (List TJointOption)} {P : Nat} {o : TJointOption} (hP : P < l.length) : ∀ (c : List Int) (i : Nat), (∀ (j : Nat) (x : Int), c[j]? = some x → 0 ≤ x ∧ x < ((l.getD (i + j) []).length : Int)) → costS (addO l P o) i c = costS l i c
  | [], _, _ => rfl
  | p :: c, i, h => by
    obtain ⟨h1, h2⟩ := h 0 p rfl
    rw [Nat.add_zero] at h2
    simp only [costS]
    rw [(addO_at hP (show p.toNat < (l.getD i []).length by omega) _).1, addO_cost hP c (i + 1) (fun j x hx => by
      have := h (j + 1) x (by simpa using hx)
      rwa [show i + (j + 1) = i + 1 + j by omega] at this)]
theorem more_law (n : Nat) (hn : big n) (l : List (List TJointOption)) (s : TSep) (o : TJointOption) (i : Int) (hl : l.length * 24 ≤ 140737488351232) (hln : l.length < n) (ho : ∀ r ∈ l, r.length * 32 ≤ 140737488351232 ∧ r.length < n) : gMore n l s o i = some true := by
  have hn64 : 64 < n := by unfold big at hn; omega
  unfold gMore
  rcases few_cases n hn l (by omega) hln (fun r hr => ⟨by have := (ho r hr).1; omega, (ho r hr).2⟩) with ⟨e, -⟩ | e
  case inr => rw [e]; rfl
  rw [e, Option.bind_some, Bool.not_true, cond_false]
  by_cases h0 : l = []
  · rw [if_pos h0]
  rw [if_neg h0]
  have hpos : 0 < l.length := List.length_pos_iff.2 h0
  rcases small_cases n hn64 [o.Tube] 1 100 (by simp) (by simp) with ⟨e2, -⟩ | e2
  case inr => rw [e2]; rfl
  rw [e2, Option.bind_some, Bool.not_true, cond_false]
  obtain ⟨P, hP, hPl⟩ := pick_totM n i l.length hpos (by omega)
  have hroom : 0 ≤ (P : Int) ∧ (P : Int) < (l.length : Int) ∧ l.length * 24 ≤ 140737488355328 ∧ ((l.getD (P : Int).toNat []).length + 1) * 32 ≤ 140737488355328 := by
    refine ⟨by omega, by omega, by omega, ?_⟩
    rw [Int.toNat_natCast]
    have hm : l.getD P [] ∈ l := by
      have : l.getD P [] = l[P] := by simp [List.getD, hPl]
      rw [this]; exact List.getElem_mem hPl
    have := (ho _ hm).1
    omega
  have hadd : l.set (P : Int).toNat (l.getD (P : Int).toNat [] ++ [o]) = addO l P o := by rw [Int.toNat_natCast]; rfl
  have fin : ∀ b c : List Int × Int × Int, g9 n l s = some b → g9 n (addO l P o) s = some c → (b.2.2 = 0 → c.2.2 = 0 → c.2.1 ≤ b.2.1) → ((g9 n l s).bind fun b => (g14 n i (l.length : Int)).bind fun p => moreT n l s o b p) = some true := by
    intro b c hb hc h
    rw [hb, Option.bind_some, hP, Option.bind_some]
    unfold moreT
    rw [if_pos hroom, hadd, hc, Option.bind_some]
    by_cases q1 : b.2.2 = 0
    · by_cases q2 : c.2.2 = 0
      · rw [decide_eq_true (h q1 q2)]; simp
      · rw [bne_iff_ne.2 q2]; simp
    · rw [bne_iff_ne.2 q1]; rfl
  have tot : ∀ l, ∃ b, g9 n l s = some b := fun l => by
    rcases jerr n hn l s with ⟨z, -, h1, -⟩ | ⟨hs, hc, hj⟩
    · exact ⟨_, h1⟩
    · rcases best_val hn hj hc hs with ⟨h1, -⟩ | ⟨b, z, h1, -⟩ <;> exact ⟨_, h1⟩
  obtain ⟨b, hb⟩ := tot l
  obtain ⟨c, hc⟩ := tot (addO l P o)
  refine fin b c hb hc (fun hb0 hc0 => ?_)
  rcases jerr n hn l s with ⟨z, hz, h1, -⟩ | ⟨hs, hck, hj⟩
  · rw [h1] at hb; cases hb; exact absurd hb0 hz
  rcases jerr n hn (addO l P o) s with ⟨z, hz, h1, -⟩ | ⟨-, hck2, hj2⟩
  · rw [h1] at hc; cases hc; exact absurd hc0 hz
  rcases best_val hn hj hck hs with ⟨h1, -⟩ | ⟨bb, z, h1, hz, hlen, hcho, hclr, -, -⟩
  · rw [h1] at hb; cases hb; cases hb0
  rcases best_val hn hj2 hck2 hs with ⟨h2, -⟩ | ⟨cb, z2, h2, -, -, -, -, -, hmin⟩
  · rw [h2] at hc; cases hc; cases hc0
  rw [h1] at hb
  cases hb
  rw [h2] at hc
  cases hc
  show z2 ≤ z
  have hclr2 : Clear (clF n (addO l P o) s) bb := by
    intro i k hik hk
    have hp : bb[i]? = some bb[i] := List.getElem?_eq_getElem (by omega)
    have hq : bb[k]? = some bb[k] := List.getElem?_eq_getElem hk
    have c1 := hcho.2 i _ hp
    have c2 := hcho.2 k _ hq
    have := hclr i k hik hk
    rw [show bb.getD i 0 = bb[i] by simp [List.getD, hp], show bb.getD k 0 = bb[k] by simp [List.getD, hq]] at this ⊢
    rw [addO_clF hPl (by omega) (by omega) (by omega) (by omega)]
    exact this
  have hmem : (bb, none) ∈ evs n (addO l P o) s := by
    unfold evs
    rw [addO_len]
    have := ev_free (l := l) (l2 := addO l P o) (cl2 := clF n (addO l P o) s) l.length [] bb (by simp) hlen hcho (addO_len l P o) (fun j => by
      obtain ⟨t, ht⟩ := addO_get (o := o) hPl j
      rw [ht]; simp) hclr2
    simpa using this
  have := hmin bb hmem
  rw [addO_cost hPl bb 0 (fun j x hx => by rw [Nat.zero_add]; exact hcho.2 j x hx)] at this
  omega
open Go.RowKit Go.ChangeShapes

theorem weigh_in {H : Type} {P : Program} {e : TypeId} : ∀ {l : List (DataW H)} {d : DataW H}, d ∈ l → ∀ k ∈ d.weights P e, k ∈ DataW.weightsAll P e l
  | [], _, hd, _, _ => by simp at hd
  | d' :: r, d, hd, k, hk => by
    simp only [DataW.weightsAll, List.mem_append]
    rcases List.mem_cons.1 hd with rfl | h
    · exact .inl hk
    · exact .inr (weigh_in h k hk)
theorem row_room {H : Type} {enc : TypeId × Value → H} {P : Program} {W : World} {ts : List TypeId} {ds : List (DataW H)} (h : (DataW.weightsEach P ts ds).all (· ≤ reachBytes) = true) {j : Nat} {t e q : TypeId} (ht : ts[j]? = some t) {d : DataW H} (hd : ds[j]? = some d) (hu : P.underlying t = some (.slice e)) (hu2 : P.underlying e = some (.slice q)) (hce : P.cellsOf e = 1)
    {a : Addr} {n cap base : Nat} {sp : Nat → Bool} {held : Bool} {p : List MemPlace} (hk : DataW.Trod enc P W base sp held t (.slice (some a) n cap) d p) {i : Nat} (hi : i < n) {ra : Option Addr} {rn rc : Nat} (hc : W.cell? (a.add i) = some (.slice ra rn rc)) : rn * P.bytesOf q ≤ reachBytes := by
  obtain ⟨fuel, hf⟩ := hk
  rcases DataW.trod_slice hu hf with ⟨h1, -⟩ | ⟨a', len, cap', elems, rest, m, -, h1, hx, hb, -, -, hl, hel, -, -⟩
  · have h1 : [Value.slice (some a) n cap] = [.slice none 0 0] := h1
    simp at h1
  · have h1 : [Value.slice (some a) n cap] = [.slice (some a') len cap'] := h1
    simp only [List.cons.injEq, Value.slice.injEq, Option.some.injEq, and_true] at h1
    obtain ⟨rfl, rfl, rfl⟩ := h1
    simp only [Prod.mk.injEq] at hx
    obtain ⟨rfl, -⟩ := hx
    have hei := hel i hi
    rw [hce, Nat.mul_one] at hei
    have hbb : base ≤ (a.add i).block := by
      have : (a.add i).block = a.block := by unfold Addr.add; split <;> rfl
      rw [this]; exact hb
    have h00 : ∀ b : Addr, b.add 0 = b := fun b => by simp [Addr.add]
    have h0 := h00 (a.add i)
    have hcs : W.cells? base (a.add i) 1 = some [.slice ra rn rc] := by
      unfold World.cells?
      rw [if_pos hbb]
      simp [List.range_succ, h0, hc]
    rw [hcs, Option.bind_some] at hei
    have hei2 : i < elems.length := by omega
    rw [List.getElem?_eq_getElem hei2] at hei
    rcases DataW.trod_slice hu2 hei with ⟨h2, -⟩ | ⟨a2, len2, cap2, elems2, rest2, m2, -, h2, hx2, -, -, -, hl2, -⟩
    · simp only [List.cons.injEq, Value.slice.injEq, and_true] at h2
      obtain ⟨-, rfl, -⟩ := h2
      simp
    · simp only [List.cons.injEq, Value.slice.injEq, and_true] at h2
      obtain ⟨-, rfl, -⟩ := h2
      have hmem : DataW.slice (elems2.map (·.1)) (rest2.map (·.1)) ∈ elems.map (·.1) := by
        refine List.mem_map.2 ⟨elems[i], List.getElem_mem hei2, ?_⟩
        rw [hx2]
      have hw := of_decide_eq_true (List.all_eq_true.1 h _ (DataW.weights_mem_each ht hd (((elems2.map (·.1)).length + (rest2.map (·.1)).length) * P.bytesOf q) (by
        simp only [DataW.weights, hu, List.mem_cons, List.mem_append]
        exact .inr (.inl (weigh_in hmem _ (by simp [DataW.weights, hu2]))))))
      rw [List.length_map, List.length_map, hl2] at hw
      exact Nat.le_trans (Nat.mul_le_mul_right _ (Nat.le_add_right _ _)) hw
theorem more_says {l : List (List TJointOption)} {s : TSep} {o : TJointOption} {i : Int} {n : Nat} (h : gMore n l s o i = some true) : Says Try.prog KK.gl 4 [(lstA (lstE TJointOption.E) l), (AV.agg [(intA s.Lateral), (intA s.Vertical)]), (AV.agg [intA o.Cost, lstA TTubeNode.E o.Tube]), intA i] (boolA true) := by
  refine says_of_calls ⟨Try.f4, _, Try.func4, rfl, by kernel_rfl⟩ (by simp [cleans, clean, encs_clean]) rfl fun B c vals g hgl hrel => ?_
  cases hrel with
  | cons r1 hrel =>
  cases hrel with
  | cons r2 hrel =>
  cases hrel with
  | cons r3 hrel =>
  cases hrel with
  | cons r4 hrel =>
  cases hrel
  obtain rfl := sep_of r2
  obtain rfl := int_of2 r4
  cases r3 with
  | agg r3 =>
  cases r3 with
  | cons q1 r3 =>
  cases r3 with
  | cons q2 r3 =>
  cases r3
  obtain rfl := int_of2 q1
  refine (more_calls h (rel_in r1 (lstA_clean _ _)) (rel_in q2 (lstA_clean _ _))).mono ?_
  rintro e w' ⟨rfl, hk⟩
  exact ⟨_, rfl, hk, .sc _ rfl⟩
end Go.Proofs.Ytlgbioidkbeanaa
