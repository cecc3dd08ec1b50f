/- Combine and Split as plain answers. -/
import Derived.Test.YthjcdlbkdobmiaaCc2
set_option linter.unusedVariables false
set_option linter.unusedSimpArgs false
namespace Go.Proofs.Ythjcdlbkdobmiaa
theorem cb_lt : ∀ a b : List UInt8, decide (Go.Lib.compareBytes a b < 0) = Op.bytesLess a b
  | [], [] => rfl
  | [], _ :: _ => rfl
  | _ :: _, [] => rfl
  | a :: r, b :: s => by
    have ih := cb_lt r s
    unfold Go.Lib.compareBytes Op.bytesLess
    rcases Nat.lt_trichotomy a.toNat b.toNat with h | h | h
    · have h' : a < b := h
      rw [if_pos h']
      simp [h']
    · have : a = b := UInt8.toNat_inj.1 h
      subst this
      rw [if_neg (UInt8.lt_irrefl _), if_neg (UInt8.lt_irrefl _), ih]
      simp
    · have h' : b < a := h
      have h2 : ¬ a < b := fun k => UInt8.lt_irrefl _ (UInt8.lt_trans k h')
      have h3 : a ≠ b := fun k => by subst k; exact UInt8.lt_irrefl _ h'
      rw [if_neg h2, if_pos h']
      simp [h2, h3]
abbrev cmpG (a b : TConfigGroup) : Option Int := some (Go.Lib.compareBytes a.Position.data.toList b.Position.data.toList)
theorem lt_cmpG (a b : TConfigGroup) : ltO cmpG a b = Op.bytesLess a.Position.toList b.Position.toList := by
  unfold ltO cmpG
  rw [Option.getD_some, cb_lt, ByteArray.toList_eq, ByteArray.toList_eq]
theorem sort_pos {K : List TConfigGroup} (hn : (K.map (·.Position)).Nodup) (hK : K.length < 4611686018427387904) : ∃ R, sortO cmpG K = some R ∧ R.Perm K ∧ R.Pairwise fun a b => Op.bytesLess b.Position.toList a.Position.toList = false := by
  have ho : OrdOn cmpG K := by
    refine ⟨fun x _ y _ => ⟨_, rfl⟩, fun x hx y hy => ?_, fun x _ y _ h => ?_, fun x _ y _ z _ h1 h2 => ?_⟩
    · rw [lt_cmpG, lt_cmpG]
      rcases less_tot x.Position.toList y.Position.toList with k | k | k
      · exact .inl k
      · exact .inr (.inl k)
      · exact .inr (.inr (mem_inj hn hx hy (str_inj k)))
    · rw [lt_cmpG] at *; exact less_asy _ _ h
    · rw [lt_cmpG] at *; exact less_tra _ _ _ h1 h2
  have e : sortO cmpG K = some (isortB (ltO cmpG) K) := by
    unfold sortO
    rw [orderB_on.2 ho, decide_eq_true hK]; rfl
  obtain ⟨p1, p2, -⟩ := sortO_facts e
  exact ⟨_, e, p1, p2.imp fun h => by rwa [lt_cmpG] at h⟩
def isP (p : ByteArray) (g : TConfigGroup) : Bool := g.Position.toList == p.toList
theorem isP_iff {p : ByteArray} {g : TConfigGroup} : isP p g = true ↔ g.Position = p := by
  unfold isP
  constructor
  · exact fun h => str_inj (beq_iff_eq.1 h)
  · rintro rfl; simp
theorem idx_val (n : Nat) (l : List TConfigGroup) (hl : l.length < n) (hl2 : l.length ≤ 1000) (p : ByteArray) : g13 n l p = some (idxL (isP p) l) := by
  unfold g13
  refine index_loop (isP p) l (by omega) (S := fun y : Int => S13_0 n l p (0) (l.length : Int) y) (fun i x hx => ?_) ?_ n hl
  · have := some_lt hx
    unfold S13_0
    rw [decide_eq_true (show (i : Int) < _ by omega), cond_true, getI_at hx, Option.bind_some, wS (by omega)]
    unfold isP
    cases h : x.Position.toList == p.toList <;> simp [g30, h]
  · unfold S13_0
    rw [decide_eq_false (Int.lt_irrefl _)]; rfl
theorem idx1_val (n : Nat) (l : List TConfigGroup) (hl : l.length < n) (hl2 : l.length ≤ 1000) (p : ByteArray) : g13_1 n l p = some (idxL (isP p) l) := by
  unfold g13_1
  refine index_loop (isP p) l (by omega) (S := fun y : Int => S13_0_x1 n l p (0) (l.length : Int) y) (fun i x hx => ?_) ?_ n hl
  · have := some_lt hx
    unfold S13_0_x1
    rw [decide_eq_true (show (i : Int) < _ by omega), cond_true, getI_at hx, Option.bind_some, wS (by omega)]
    unfold isP
    cases h : x.Position.toList == p.toList <;> simp [g14, h]
  · unfold S13_0_x1
    rw [decide_eq_false (Int.lt_irrefl _)]; rfl
theorem index_val (n : Nat) (l : List TConfigGroup) (hl : l.length < n) (hl2 : l.length ≤ 1000) (p : ByteArray) : g19 n l p = some (idxL (isP p) l) := by
  unfold g19
  rw [idx_val n l hl hl2 p]; rfl
theorem idx_no {l : List TConfigGroup} {p : ByteArray} : idxL (isP p) l < 0 ↔ ∀ g ∈ l, g.Position ≠ p := by
  rw [idxL_neg]
  constructor
  · intro h g hg e
    have := h g hg
    rw [isP_iff.2 e] at this; cases this
  · intro h g hg
    cases k : isP p g with
    | false => rfl
    | true => exact absurd (isP_iff.1 k) (h g hg)
theorem idx_yes {l : List TConfigGroup} {p : ByteArray} (h : ¬ idxL (isP p) l < 0) : ∃ x, l[(idxL (isP p) l).toNat]? = some x ∧ x.Position = p := by
  obtain ⟨x, h1, h2, -⟩ := idxL_at (isP p) l (by omega)
  exact ⟨x, h1, isP_iff.1 h2⟩
theorem has_val2 (n : Nat) (L : List ByteArray) (hL : L.length < n) (hL2 : L.length ≤ 4611686018427387904) (s : ByteArray) : g23 n L s = some (has L s) := by
  have e : g33 n L s = some (idxL (fun x : ByteArray => s.toList == x.toList) L) := by
    unfold g33
    refine index_loop (fun x : ByteArray => s.toList == x.toList) L (by omega) (S := fun y : Int => S33_0 n L s (0) (L.length : Int) y) (fun i x hx => ?_) ?_ n hL
    · have := some_lt hx
      unfold S33_0
      rw [decide_eq_true (show (i : Int) < _ by omega), cond_true, getI_at hx, Option.bind_some, wS (by omega)]
      cases s.toList == x.toList <;> rfl
    · unfold S33_0
      rw [decide_eq_false (Int.lt_irrefl _)]; rfl
  unfold g23
  rw [e, Option.bind_some]
  congr 1
  unfold has
  have hn := idxL_neg (fun x : ByteArray => s.toList == x.toList) L
  rcases Int.lt_or_le (idxL (fun x : ByteArray => s.toList == x.toList) L) 0 with h | h
  · rw [decide_eq_false (show ¬ idxL (fun x : ByteArray => s.toList == x.toList) L ≥ 0 by omega)]
    symm
    rw [List.any_eq_false]
    exact fun x hx => by have := hn.1 h x hx; simp [this]
  · rw [decide_eq_true h]
    symm
    by_cases hh : (L.any fun x => s.toList == x.toList) = true
    · exact hh
    · exfalso
      have := hn.2 (fun x hx => by
        cases hq : (s.toList == x.toList)
        · rfl
        · exact absurd (List.any_eq_true.2 ⟨x, hx, hq⟩) hh)
      omega
theorem hasL_has : hasL = has := rfl
theorem comb_bad (n : Nat) (hn : 30 < n) {l : List TConfigGroup} (h : ¬ CfGd (Vn n) l) (to from_ : ByteArray) : ∃ e, e ≠ 0 ∧ g8 n l to from_ = some ([], e) := by
  obtain ⟨z, hz, k⟩ := check_iff n hn l
  have h0 : z ≠ 0 := fun e => h (k.1 e)
  unfold g8
  rw [hz, Option.bind_some, bne_iff_ne.2 h0, cond_true]
  exact ⟨z, h0, rfl⟩
theorem split_bad (n : Nat) (hn : 30 < n) {l : List TConfigGroup} (h : ¬ CfGd (Vn n) l) (from_ to : ByteArray) (names : List ByteArray) : ∃ e, e ≠ 0 ∧ g9 n l from_ to names = some ([], e) := by
  obtain ⟨z, hz, k⟩ := check_iff n hn l
  have h0 : z ≠ 0 := fun e => h (k.1 e)
  unfold g9
  rw [hz, Option.bind_some, bne_iff_ne.2 h0, cond_true]
  exact ⟨z, h0, rfl⟩
theorem names_bad (n : Nat) (hn : 30 < n) {l : List TConfigGroup} (h : ¬ CfGd (Vn n) l) : ∃ e, e ≠ 0 ∧ g7 n l = some ([], e) := by
  obtain ⟨z, hz, k⟩ := check_iff n hn l
  have h0 : z ≠ 0 := fun e => h (k.1 e)
  unfold g7
  rw [hz, Option.bind_some, bne_iff_ne.2 h0, cond_true]
  exact ⟨z, h0, rfl⟩
theorem comb_val (n : Nat) (hn : 30 < n) {l : List TConfigGroup} (h : CfGd (Vn n) l) (to from_ : ByteArray) : ∃ R c, g8 n l to from_ = some (R, c) ∧ (c = 0 → ∃ x y z, Comb l R x y z ∧ x.Position = to ∧ y.Position = from_) ∧ ((∃ g ∈ l, g.Position = to) → (∃ g ∈ l, g.Position = from_) → to ≠ from_ → c = 0) := by
  obtain ⟨hc, hk⟩ := h.ok hn
  have hlen := hk.len
  unfold g8
  rw [hc, Option.bind_some, show ((0 : Int) != 0) = false from rfl, cond_false, index_val n l (by omega) (by omega), Option.bind_some, index_val n l (by omega) (by omega), Option.bind_some]
  by_cases hi : idxL (isP to) l < 0
  · rw [if_pos (.inl hi)]
    refine ⟨_, _, rfl, fun e => absurd e (by decide), fun ⟨g, hg, e⟩ => absurd e (idx_no.1 hi g hg)⟩
  by_cases hj : idxL (isP from_) l < 0
  · rw [if_pos (.inr hj)]
    refine ⟨_, _, rfl, fun e => absurd e (by decide), fun _ ⟨g, hg, e⟩ => absurd e (idx_no.1 hj g hg)⟩
  rw [if_neg (show ¬ (idxL (isP to) l < 0 ∨ idxL (isP from_) l < 0) by omega)]
  obtain ⟨x, hx, hx2⟩ := idx_yes hi
  obtain ⟨y, hy, hy2⟩ := idx_yes hj
  by_cases hij : idxL (isP to) l = idxL (isP from_) l
  · rw [if_pos hij]
    refine ⟨_, _, rfl, fun e => absurd e (by decide), fun _ _ e => absurd ?_ e⟩
    rw [hij, hy] at hx
    cases hx
    rw [← hx2, hy2]
  rw [if_neg hij, hx, Option.bind_some, hy, Option.bind_some]
  have h1 := sec_sub (List.mem_of_getElem? hx)
  have h2 := sec_sub (List.mem_of_getElem? hy)
  have := hk.all
  rw [if_pos ⟨by omega, by omega, fun g hg => ⟨by have := sec_sub hg; omega, List.length_pos_iff.2 (hk.grp g hg).2⟩⟩]
  refine ⟨_, _, rfl, fun _ => ⟨x, y, _, comb_of h hx hy (by omega) rfl (sortS_perm _) (sortS_sorted _), hx2, hy2⟩, fun _ _ _ => rfl⟩
theorem split_val (n : Nat) (hn : 30 < n) {l : List TConfigGroup} (h : CfGd (Vn n) l) (from_ to : ByteArray) (names : List ByteArray) (hN : names.length < n) (hN2 : names.length ≤ 4611686018427387904) : ∃ R c, g9 n l from_ to names = some (R, c) ∧ (c = 0 → ∃ x u v, Spl l R x u v (has names) ∧ x.Position = from_ ∧ v.Position = to ∧ Vn n to) ∧ (∀ x ∈ l, x.Position = from_ → Vn n to → (∀ g ∈ l, g.Position ≠ to) → (∀ s ∈ names, s ∈ x.Sectors) → (∃ s ∈ x.Sectors, s ∈ names) → (∃ s ∈ x.Sectors, s ∉ names) → c = 0) := by
  obtain ⟨hc, hk⟩ := h.ok hn
  have hlen := hk.len
  unfold g9
  rw [hc, Option.bind_some, show ((0 : Int) != 0) = false from rfl, cond_false, index_val n l (by omega) (by omega), Option.bind_some]
  by_cases hi : idxL (isP from_) l < 0
  · rw [if_pos hi]
    exact ⟨_, _, rfl, fun e => absurd e (by decide), fun x hx e => absurd e (idx_no.1 hi x hx)⟩
  rw [if_neg hi]
  obtain ⟨x, hx, hx2⟩ := idx_yes hi
  have hxm := List.mem_of_getElem? hx
  have same : ∀ x' ∈ l, x'.Position = from_ → x' = x := fun x' h1 h2 => mem_inj (pos_ne h.pos) h1 hxm (by rw [h2, hx2])
  obtain ⟨b, hb, -⟩ := name_ok n (by omega) to
  rw [hb, Option.bind_some]
  cases b with
  | false =>
    rw [Bool.not_false, cond_true]
    refine ⟨_, _, rfl, fun e => absurd e (by decide), fun x hx e hv => ?_⟩
    unfold Vn at hv
    rw [hb] at hv; cases hv
  | true =>
  rw [Bool.not_true, cond_false, index_val n l (by omega) (by omega), Option.bind_some]
  by_cases hj : idxL (isP to) l < 0
  case neg =>
    rw [if_pos (show idxL (isP to) l ≥ 0 by omega)]
    obtain ⟨y, hy, hy2⟩ := idx_yes hj
    exact ⟨_, _, rfl, fun e => absurd e (by decide), fun _ _ _ _ q => absurd hy2 (q y (List.mem_of_getElem? hy))⟩
  rw [if_neg (show ¬ idxL (isP to) l ≥ 0 by omega), hx, Option.bind_some]
  have h1 := sec_sub hxm
  have h2 := hk.all
  rw [hasL_has]
  by_cases hbad : names.all (has x.Sectors) = true
  case neg =>
    rw [Bool.eq_false_iff.2 hbad, Bool.not_false, cond_true]
    refine ⟨_, _, rfl, fun e => absurd e (by decide), fun x' h1 h2 _ _ q => absurd ?_ hbad⟩
    rw [List.all_eq_true]
    intro s hs
    have := q s hs
    rw [same x' h1 h2] at this
    exact has_iff.2 this
  rw [hbad, Bool.not_true, cond_false]
  rw [if_pos ⟨by omega, by omega, fun g hg => ⟨by have := sec_sub hg; omega, List.length_pos_iff.2 (hk.grp g hg).2⟩⟩]
  have hadd := (List.filter_append_perm (has names) x.Sectors).length_eq
  rw [List.length_append] at hadd
  by_cases hs : (x.Sectors.filter (has names)).length = 0 ∨ (x.Sectors.filter (has names)).length = x.Sectors.length
  · rw [if_pos hs]
    refine ⟨_, _, rfl, fun e => absurd e (by decide), fun x' h1 h2 _ _ _ q1 q2 => ?_⟩
    rw [same x' h1 h2] at q1 q2
    obtain ⟨s, a1, a2⟩ := q1
    obtain ⟨t, b1, b2⟩ := q2
    have c1 : s ∈ x.Sectors.filter (has names) := List.mem_filter.2 ⟨a1, has_iff.2 a2⟩
    have c2 : t ∈ x.Sectors.filter fun s => !has names s := List.mem_filter.2 ⟨b1, by
      cases q : has names t with
      | false => rfl
      | true => exact absurd (has_iff.1 q) b2⟩
    have d1 := List.length_pos_of_mem c1
    have d2 := List.length_pos_of_mem c2
    omega
  rw [if_neg hs]
  have hset := set_perm (z := (⟨x.Position, x.Sectors.filter fun s => !has names s⟩ : TConfigGroup)) hx
  have hperm : (l.set (idxL (isP from_) l).toNat (⟨x.Position, x.Sectors.filter fun s => !has names s⟩ : TConfigGroup) ++ [(⟨to, x.Sectors.filter (has names)⟩ : TConfigGroup)]).Perm ((⟨x.Position, x.Sectors.filter fun s => !has names s⟩ : TConfigGroup) :: ⟨to, x.Sectors.filter (has names)⟩ :: l.eraseIdx (idxL (isP from_) l).toNat) := by
    refine (hset.append_right _).trans ?_
    rw [List.cons_append]
    exact (List.perm_append_comm).cons _
  have hnd : ((l.set (idxL (isP from_) l).toNat (⟨x.Position, x.Sectors.filter fun s => !has names s⟩ : TConfigGroup) ++ [(⟨to, x.Sectors.filter (has names)⟩ : TConfigGroup)]).map (·.Position)).Nodup := by
    refine (hperm.map _).nodup_iff.2 ?_
    have nx : ((x :: l.eraseIdx (idxL (isP from_) l).toNat).map (·.Position)).Nodup := ((erase_perm hx).map _).nodup_iff.2 (pos_ne h.pos)
    rw [List.map_cons, List.nodup_cons] at nx
    rw [List.map_cons, List.map_cons, List.nodup_cons, List.nodup_cons]
    have hv : ∀ g ∈ x :: l.eraseIdx (idxL (isP from_) l).toNat, g.Position ≠ to := fun g hg => idx_no.1 hj g ((erase_perm hx).mem_iff.1 hg)
    refine ⟨fun q => ?_, fun q => ?_, nx.2⟩
    · rcases List.mem_cons.1 q with e | e
      · exact hv x (by simp) e
      · exact nx.1 e
    · obtain ⟨g, hg, e⟩ := List.mem_map.1 q
      exact hv g (by simp [hg]) e
  obtain ⟨R, hR, hR2, hR3⟩ := sort_pos hnd (by rw [List.length_append, List.length_set]; simp; omega)
  rw [show (sortO (fun a b : TConfigGroup => some (Go.Lib.compareBytes a.Position.data.toList b.Position.data.toList)) (l.set (idxL (isP from_) l).toNat (⟨x.Position, x.Sectors.filter fun s => !has names s⟩ : TConfigGroup) ++ [(⟨to, x.Sectors.filter (has names)⟩ : TConfigGroup)])) = some R from hR, Option.map_some]
  refine ⟨R, 0, rfl, fun _ => ⟨x, _, _, ⟨⟨_, erase_perm hx, hR2.trans hperm⟩, rfl, rfl, rfl, ?_, ?_, idx_no.1 hj, hR3⟩, hx2, rfl, hb⟩, fun _ _ _ _ _ _ _ _ => rfl⟩
  · intro e
    have := congrArg List.length e
    simp only [List.length_nil] at this
    omega
  · intro e
    have := congrArg List.length e
    simp only [List.length_nil] at this
    omega
end Go.Proofs.Ythjcdlbkdobmiaa
