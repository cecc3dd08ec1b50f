/- Positions of controllers in good order: what Check accepts, in the abstract; who owns a sector; what combining and splitting do. -/
import Derived.Test.YthjcdlbkdobmiaaX1T
import Derived.Test.YthjcdlbkdobmiaaSortS
set_option linter.unusedVariables false
set_option linter.unusedSimpArgs false
namespace Go.Proofs.Ythjcdlbkdobmiaa
abbrev LtP (a b : TConfigGroup) : Prop := Op.bytesLess a.Position.toList b.Position.toList = true
abbrev LeS (a b : ByteArray) : Prop := Op.bytesLess b.toList a.toList = false
structure CfGd (V : ByteArray → Prop) (l : List TConfigGroup) : Prop where
  pos : l.Pairwise LtP
  nam : ∀ g ∈ l, V g.Position ∧ g.Sectors ≠ [] ∧ (∀ s ∈ g.Sectors, V s) ∧ g.Sectors.Pairwise LeS
  dup : (l.flatMap (·.Sectors)).Nodup
  all : (l.flatMap (·.Sectors)).length ≤ 12
theorem les_tra (a b c : ByteArray) (h1 : LeS a b) (h2 : LeS b c) : LeS a c := by
  unfold LeS at *
  cases h : Op.bytesLess c.toList a.toList with
  | false => rfl
  | true =>
    rcases less_tot b.toList c.toList with k | k | k
    · rw [less_tra _ _ _ k h] at h1; cases h1
    · rw [k] at h2; cases h2
    · rw [← k] at h; rw [h] at h1; cases h1
theorem adj_pw {α : Type} {R : α → α → Prop} (ht : ∀ a b c, R a b → R b c → R a c) : ∀ {l : List α}, (∀ (i : Nat) (x y : α), l[i]? = some x → l[i + 1]? = some y → R x y) → l.Pairwise R
  | [], _ => .nil
  | [a], _ => List.pairwise_singleton _ _
  | a :: b :: l, h => by
    have ih := adj_pw ht (l := b :: l) (fun i x y hx hy => h (i + 1) x y hx hy)
    have hab := h 0 a b rfl rfl
    refine List.pairwise_cons.2 ⟨fun y hy => ?_, ih⟩
    rcases List.mem_cons.1 hy with rfl | hy
    · exact hab
    · exact ht _ _ _ hab ((List.pairwise_cons.1 ih).1 y hy)
theorem pw_adj {α : Type} {R : α → α → Prop} {l : List α} (h : l.Pairwise R) {i : Nat} {x y : α} (hx : l[i]? = some x) (hy : l[i + 1]? = some y) : R x y := by
  obtain ⟨h1, rfl⟩ := List.getElem?_eq_some_iff.1 hx
  obtain ⟨h2, rfl⟩ := List.getElem?_eq_some_iff.1 hy
  exact List.pairwise_iff_getElem.1 h i (i + 1) h1 h2 (by omega)
theorem nlt_self (a : TConfigGroup) : ¬ LtP a a := by unfold LtP; rw [less_irr]; decide
theorem ltp_ne {a b : TConfigGroup} (h : LtP a b) : a.Position ≠ b.Position := fun e => by
  unfold LtP at h; rw [e, less_irr] at h; cases h
theorem pos_ne {l : List TConfigGroup} (h : l.Pairwise LtP) : (l.map (·.Position)).Nodup := by
  rw [List.Nodup, List.pairwise_map]
  exact h.imp fun h => ltp_ne h
/- a sorted list of distinct positions -/
theorem pos_of {l : List TConfigGroup} (h : l.Pairwise fun a b => Op.bytesLess b.Position.toList a.Position.toList = false) (hn : (l.map (·.Position)).Nodup) : l.Pairwise LtP := by
  rw [List.Nodup, List.pairwise_map] at hn
  refine (h.and hn).imp fun {a b} ⟨h1, h2⟩ => ?_
  rcases less_tot a.Position.toList b.Position.toList with k | k | k
  · exact k
  · rw [k] at h1; cases h1
  · exact absurd (by rw [ByteArray.toList_eq, ByteArray.toList_eq] at k; exact ByteArray.ext (Array.toList_inj.1 k)) h2
/- who owns a sector -/
def CfOwn (l : List TConfigGroup) (p s : ByteArray) : Prop := ∃ g ∈ l, g.Position = p ∧ s ∈ g.Sectors
theorem own_flat {l : List TConfigGroup} {s : ByteArray} : s ∈ l.flatMap (·.Sectors) ↔ ∃ p, CfOwn l p s := by
  rw [List.mem_flatMap]
  constructor
  · rintro ⟨g, h1, h2⟩; exact ⟨_, g, h1, rfl, h2⟩
  · rintro ⟨p, g, h1, -, h2⟩; exact ⟨g, h1, h2⟩
theorem own_one : ∀ {l : List TConfigGroup}, (l.flatMap (·.Sectors)).Nodup → ∀ {p q s : ByteArray}, CfOwn l p s → CfOwn l q s → p = q
  | [], _, _, _, _, ⟨_, h, _⟩, _ => by cases h
  | g :: l, hn, p, q, s, ⟨a, ha, ha1, ha2⟩, ⟨b, hb, hb1, hb2⟩ => by
    rw [List.flatMap_cons, List.nodup_append] at hn
    rcases List.mem_cons.1 ha with rfl | ha' <;> rcases List.mem_cons.1 hb with rfl | hb'
    · rw [← ha1, hb1]
    · exact absurd rfl (hn.2.2 s ha2 s (List.mem_flatMap.2 ⟨b, hb', hb2⟩))
    · exact absurd rfl (hn.2.2 s hb2 s (List.mem_flatMap.2 ⟨a, ha', ha2⟩))
    · exact own_one hn.2.1 ⟨a, ha', ha1, ha2⟩ ⟨b, hb', hb1, hb2⟩
theorem perm_flat {l k : List TConfigGroup} (h : l.Perm k) : (l.flatMap (·.Sectors)).Perm (k.flatMap (·.Sectors)) := by
  rw [List.flatMap, List.flatMap]
  exact (h.map _).flatten
theorem mem_inj {l : List TConfigGroup} (h : (l.map (·.Position)).Nodup) {x y : TConfigGroup} (hx : x ∈ l) (hy : y ∈ l) (e : x.Position = y.Position) : x = y := by
  rw [List.Nodup, List.pairwise_map] at h
  exact pw_inj _ h x hx y hy e
/- two positions become one -/
structure Comb (l R : List TConfigGroup) (x y z : TConfigGroup) : Prop where
  was : ∃ E, (x :: E).Perm l ∧ (y :: R).Perm (z :: E)
  sub : List.Sublist (R.map (·.Position)) (l.map (·.Position))
  pz : z.Position = x.Position
  sz : z.Sectors.Perm (x.Sectors ++ y.Sectors)
  sor : z.Sectors.Pairwise LeS
  ne : x.Position ≠ y.Position
theorem erase_perm {α : Type} : ∀ {l : List α} {i : Nat} {x : α}, l[i]? = some x → (x :: l.eraseIdx i).Perm l
  | a :: l, 0, x, h => by cases h; exact List.Perm.refl _
  | a :: l, i + 1, x, h => by
    rw [List.eraseIdx_cons_succ]
    exact (List.Perm.swap a x _).trans ((erase_perm (l := l) (i := i) h).cons a)
theorem set_perm {α : Type} : ∀ {l : List α} {i : Nat} {x z : α}, l[i]? = some x → (l.set i z).Perm (z :: l.eraseIdx i)
  | a :: l, 0, x, z, h => by cases h; exact List.Perm.refl _
  | a :: l, i + 1, x, z, h => by
    rw [List.eraseIdx_cons_succ, List.set_cons_succ]
    exact ((set_perm (l := l) (i := i) h).cons a).trans (List.Perm.swap z a _)
theorem comb_of {V : ByteArray → Prop} {l : List TConfigGroup} (hl : CfGd V l) {i k : Nat} {x y z : TConfigGroup} (hx : l[i]? = some x) (hy : l[k]? = some y) (hik : i ≠ k) (pz : z.Position = x.Position) (sz : z.Sectors.Perm (x.Sectors ++ y.Sectors)) (sor : z.Sectors.Pairwise LeS) : Comb l ((l.set i z).eraseIdx k) x y z := by
  have hy' : (l.set i z)[k]? = some y := by rw [List.getElem?_set_ne hik]; exact hy
  have hne : x.Position ≠ y.Position := by
    obtain ⟨h1, e1⟩ := List.getElem?_eq_some_iff.1 hx
    obtain ⟨h2, e2⟩ := List.getElem?_eq_some_iff.1 hy
    have := List.pairwise_iff_getElem.1 hl.pos
    rcases Nat.lt_or_gt_of_ne hik with h | h
    · have := this i k h1 h2 h
      rw [e1, e2] at this
      exact ltp_ne this
    · have := this k i h2 h1 h
      rw [e1, e2] at this
      exact (ltp_ne this).symm
  refine ⟨⟨l.eraseIdx i, erase_perm hx, (erase_perm hy').trans (set_perm hx)⟩, ?_, pz, sz, sor, hne⟩
  have e : (l.set i z).map (·.Position) = l.map (·.Position) := by
    rw [List.map_set, pz]
    refine List.ext_getElem? fun j => ?_
    by_cases hj : i = j
    · subst hj
      rw [List.getElem?_set_self (by rw [List.length_map]; exact some_lt hx), List.getElem?_map, hx]; rfl
    · rw [List.getElem?_set_ne hj]
  rw [← e]
  exact (List.eraseIdx_sublist _ _).map _
theorem Comb.flat {l R : List TConfigGroup} {x y z : TConfigGroup} (h : Comb l R x y z) : (R.flatMap (·.Sectors)).Perm (l.flatMap (·.Sectors)) := by
  obtain ⟨E, h1, h2⟩ := h.was
  have p1 := perm_flat h1
  have p2 := perm_flat h2
  rw [List.flatMap_cons] at p1
  rw [List.flatMap_cons, List.flatMap_cons] at p2
  have p3 : (y.Sectors ++ R.flatMap (·.Sectors)).Perm (y.Sectors ++ l.flatMap (·.Sectors)) := by
    refine p2.trans ((h.sz.append_right _).trans ?_)
    rw [List.append_assoc]
    refine List.Perm.trans ?_ (p1.append_left y.Sectors)
    rw [← List.append_assoc, ← List.append_assoc]
    exact List.perm_append_comm.append_right _
  exact (List.perm_append_left_iff _).1 p3
theorem Comb.good {V : ByteArray → Prop} {l R : List TConfigGroup} {x y z : TConfigGroup} (h : Comb l R x y z) (hl : CfGd V l) : CfGd V R := by
  have hf := h.flat
  obtain ⟨E, h1, h2⟩ := h.was
  have hyz : y ∈ l := by
    have : y ∈ z :: E := h2.mem_iff.1 (by simp)
    rcases List.mem_cons.1 this with e | e
    · exact absurd (by rw [← h.pz, ← e]) h.ne
    · exact h1.mem_iff.1 (by simp [e])
  have hxl : x ∈ l := h1.mem_iff.1 (by simp)
  refine ⟨?_, fun g hg => ?_, hf.nodup_iff.2 hl.dup, by rw [hf.length_eq]; exact hl.all⟩
  · have := hl.pos
    have h3 : (l.map (·.Position)).Pairwise fun a b => Op.bytesLess a.toList b.toList = true := by rw [List.pairwise_map]; exact this
    have h4 := h3.sublist h.sub
    rwa [List.pairwise_map] at h4
  · have : g ∈ z :: E := h2.mem_iff.1 (by simp [hg])
    rcases List.mem_cons.1 this with rfl | e
    · have hx := hl.nam x hxl
      have hy := hl.nam y hyz
      refine ⟨by rw [h.pz]; exact hx.1, fun e => ?_, fun s hs => ?_, h.sor⟩
      · have := h.sz.length_eq
        rw [e, List.length_append] at this
        exact hx.2.1 (List.length_eq_zero_iff.1 (by simp at this; omega))
      · rcases List.mem_append.1 (h.sz.mem_iff.1 hs) with k | k
        · exact hx.2.2.1 s k
        · exact hy.2.2.1 s k
    · exact hl.nam g (h1.mem_iff.1 (by simp [e]))
theorem Comb.own {V : ByteArray → Prop} {l R : List TConfigGroup} {x y z : TConfigGroup} (h : Comb l R x y z) (hl : CfGd V l) (p s : ByteArray) : CfOwn R p s ↔ (p = x.Position ∧ (CfOwn l x.Position s ∨ CfOwn l y.Position s)) ∨ (p ≠ x.Position ∧ p ≠ y.Position ∧ CfOwn l p s) := by
  obtain ⟨E, h1, h2⟩ := h.was
  have nl := pos_ne hl.pos
  have nx : ((x :: E).map (·.Position)).Nodup := (h1.map _).nodup_iff.2 nl
  have nz : ((z :: E).map (·.Position)).Nodup := by rw [List.map_cons, h.pz]; exact nx
  have ny : ((y :: R).map (·.Position)).Nodup := (h2.map _).nodup_iff.2 nz
  have hxl : x ∈ l := h1.mem_iff.1 (by simp)
  have hyl : y ∈ l := by
    have : y ∈ z :: E := h2.mem_iff.1 (by simp)
    rcases List.mem_cons.1 this with e | e
    · exact absurd (by rw [← h.pz, ← e]) h.ne
    · exact h1.mem_iff.1 (by simp [e])
  rw [List.map_cons, List.nodup_cons] at nx ny
  constructor
  · rintro ⟨g, hg, rfl, hs⟩
    have : g ∈ z :: E := h2.mem_iff.1 (by simp [hg])
    rcases List.mem_cons.1 this with rfl | e
    · left
      refine ⟨h.pz, ?_⟩
      rcases List.mem_append.1 (h.sz.mem_iff.1 hs) with k | k
      · exact .inl ⟨x, hxl, rfl, k⟩
      · exact .inr ⟨y, hyl, rfl, k⟩
    · right
      refine ⟨fun q => nx.1 (List.mem_map.2 ⟨g, e, q⟩), fun q => ny.1 (List.mem_map.2 ⟨g, hg, q⟩), g, h1.mem_iff.1 (by simp [e]), rfl, hs⟩
  · rintro (⟨rfl, k⟩ | ⟨q1, q2, g, hg, rfl, hs⟩)
    · have hzR : z ∈ R := by
        have : z ∈ y :: R := h2.mem_iff.2 (by simp)
        rcases List.mem_cons.1 this with e | e
        · exact absurd (by rw [← h.pz, e]) h.ne
        · exact e
      refine ⟨z, hzR, h.pz, h.sz.mem_iff.2 (List.mem_append.2 ?_)⟩
      rcases k with ⟨g, hg, e, hs⟩ | ⟨g, hg, e, hs⟩
      · rw [mem_inj nl hg hxl e] at hs; exact .inl hs
      · rw [mem_inj nl hg hyl e] at hs; exact .inr hs
    · have : g ∈ x :: E := h1.mem_iff.2 hg
      rcases List.mem_cons.1 this with e | e
      · exact absurd (by rw [e]) q1
      · have : g ∈ y :: R := h2.mem_iff.2 (by simp [e])
        rcases List.mem_cons.1 this with e | e
        · exact absurd (by rw [e]) q2
        · exact ⟨g, e, rfl, hs⟩
/- one position becomes two -/
structure Spl (l R : List TConfigGroup) (x u v : TConfigGroup) (w : ByteArray → Bool) : Prop where
  was : ∃ E, (x :: E).Perm l ∧ R.Perm (u :: v :: E)
  pu : u.Position = x.Position
  su : u.Sectors = x.Sectors.filter fun s => !w s
  sv : v.Sectors = x.Sectors.filter w
  nu : u.Sectors ≠ []
  nv : v.Sectors ≠ []
  new : ∀ g ∈ l, g.Position ≠ v.Position
  sor : R.Pairwise fun a b => Op.bytesLess b.Position.toList a.Position.toList = false
theorem Spl.flat {l R : List TConfigGroup} {x u v : TConfigGroup} {w : ByteArray → Bool} (h : Spl l R x u v w) : (R.flatMap (·.Sectors)).Perm (l.flatMap (·.Sectors)) := by
  obtain ⟨E, h1, h2⟩ := h.was
  refine (perm_flat h2).trans (List.Perm.trans ?_ (perm_flat h1))
  rw [List.flatMap_cons, List.flatMap_cons, List.flatMap_cons, ← List.append_assoc, h.su, h.sv]
  refine List.Perm.append_right _ ?_
  exact List.perm_append_comm.trans (List.filter_append_perm w x.Sectors)
theorem Spl.pnd {V : ByteArray → Prop} {l R : List TConfigGroup} {x u v : TConfigGroup} {w : ByteArray → Bool} (h : Spl l R x u v w) (hl : CfGd V l) : (R.map (·.Position)).Nodup := by
  obtain ⟨E, h1, h2⟩ := h.was
  have nx : ((x :: E).map (·.Position)).Nodup := (h1.map _).nodup_iff.2 (pos_ne hl.pos)
  refine (h2.map _).nodup_iff.2 ?_
  rw [List.map_cons, List.nodup_cons] at nx
  rw [List.map_cons, List.map_cons, List.nodup_cons, List.nodup_cons, h.pu]
  have hv : ∀ g ∈ x :: E, g.Position ≠ v.Position := fun g hg => h.new g (h1.mem_iff.1 hg)
  refine ⟨fun q => ?_, fun q => ?_, nx.2⟩
  · rcases List.mem_cons.1 q with e | e
    · exact hv x (by simp) e
    · exact nx.1 e
  · obtain ⟨g, hg, e⟩ := List.mem_map.1 q
    exact hv g (by simp [hg]) e
theorem Spl.good {V : ByteArray → Prop} {l R : List TConfigGroup} {x u v : TConfigGroup} {w : ByteArray → Bool} (h : Spl l R x u v w) (hl : CfGd V l) (hv : V v.Position) : CfGd V R := by
  have hf := h.flat
  have hp := h.pnd hl
  obtain ⟨E, h1, h2⟩ := h.was
  have hx := hl.nam x (h1.mem_iff.1 (by simp))
  refine ⟨pos_of h.sor hp, fun g hg => ?_, hf.nodup_iff.2 hl.dup, by rw [hf.length_eq]; exact hl.all⟩
  have : g ∈ u :: v :: E := h2.mem_iff.1 hg
  rcases List.mem_cons.1 this with rfl | e
  · refine ⟨by rw [h.pu]; exact hx.1, h.nu, fun s hs => ?_, ?_⟩
    · rw [h.su] at hs; exact hx.2.2.1 s (List.mem_filter.1 hs).1
    · rw [h.su]; exact hx.2.2.2.filter _
  rcases List.mem_cons.1 e with rfl | e
  · refine ⟨hv, h.nv, fun s hs => ?_, ?_⟩
    · rw [h.sv] at hs; exact hx.2.2.1 s (List.mem_filter.1 hs).1
    · rw [h.sv]; exact hx.2.2.2.filter _
  · exact hl.nam g (h1.mem_iff.1 (by simp [e]))
theorem Spl.own {V : ByteArray → Prop} {l R : List TConfigGroup} {x u v : TConfigGroup} {w : ByteArray → Bool} (h : Spl l R x u v w) (hl : CfGd V l) (p s : ByteArray) : CfOwn R p s ↔ (p = x.Position ∧ CfOwn l x.Position s ∧ w s = false) ∨ (p = v.Position ∧ CfOwn l x.Position s ∧ w s = true) ∨ (p ≠ x.Position ∧ p ≠ v.Position ∧ CfOwn l p s) := by
  obtain ⟨E, h1, h2⟩ := h.was
  have nl := pos_ne hl.pos
  have nx : ((x :: E).map (·.Position)).Nodup := (h1.map _).nodup_iff.2 nl
  have hxl : x ∈ l := h1.mem_iff.1 (by simp)
  rw [List.map_cons, List.nodup_cons] at nx
  constructor
  · rintro ⟨g, hg, rfl, hs⟩
    have : g ∈ u :: v :: E := h2.mem_iff.1 hg
    rcases List.mem_cons.1 this with rfl | e
    · rw [h.su] at hs
      have := List.mem_filter.1 hs
      exact .inl ⟨h.pu, ⟨x, hxl, rfl, this.1⟩, by simpa using this.2⟩
    rcases List.mem_cons.1 e with rfl | e
    · rw [h.sv] at hs
      have := List.mem_filter.1 hs
      exact .inr (.inl ⟨rfl, ⟨x, hxl, rfl, this.1⟩, this.2⟩)
    · have hgl : g ∈ l := h1.mem_iff.1 (by simp [e])
      exact .inr (.inr ⟨fun q => nx.1 (List.mem_map.2 ⟨g, e, q⟩), h.new g hgl, g, hgl, rfl, hs⟩)
  · rintro (⟨rfl, ⟨g, hg, e, hs⟩, k⟩ | ⟨rfl, ⟨g, hg, e, hs⟩, k⟩ | ⟨q1, q2, g, hg, rfl, hs⟩)
    · rw [mem_inj nl hg hxl e] at hs
      exact ⟨u, h2.mem_iff.2 (by simp), h.pu, by rw [h.su]; exact List.mem_filter.2 ⟨hs, by simp [k]⟩⟩
    · rw [mem_inj nl hg hxl e] at hs
      exact ⟨v, h2.mem_iff.2 (by simp), rfl, by rw [h.sv]; exact List.mem_filter.2 ⟨hs, k⟩⟩
    · have : g ∈ x :: E := h1.mem_iff.2 hg
      rcases List.mem_cons.1 this with e | e
      · exact absurd (by rw [e]) q1
      · exact ⟨g, h2.mem_iff.2 (by simp [e]), rfl, hs⟩
end Go.Proofs.Ythjcdlbkdobmiaa
