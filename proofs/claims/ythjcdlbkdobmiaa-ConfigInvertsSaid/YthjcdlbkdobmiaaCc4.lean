/- The laws ConfigKeeps and ConfigInverts as plain programs. -/
import Derived.Test.YthjcdlbkdobmiaaCc3
set_option linter.unusedVariables false
set_option linter.unusedSimpArgs false
namespace Go.Proofs.Ythjcdlbkdobmiaa
theorem nms_perm {a b : List TConfigGroup} (h : (a.flatMap (·.Sectors)).Perm (b.flatMap (·.Sectors))) : nms a = nms b := by
  unfold nms
  exact sortS_eq (h.trans (sortS_perm _).symm) (sortS_sorted _)
theorem names_good (n : Nat) (hn : 30 < n) {l : List TConfigGroup} (h : CfGd (Vn n) l) : g7 n l = some (nms l, 0) := names_val n hn l (h.ok hn).1 (h.ok hn).2
theorem keep_step (n : Nat) (hn : 30 < n) {l R : List TConfigGroup} (hl : CfGd (Vn n) l) (hR : CfGd (Vn n) R) (hp : (R.flatMap (·.Sectors)).Perm (l.flatMap (·.Sectors))) : g7 n R = some (nms l, 0) ∧ g10 n (nms l) (nms l) = some true ∧ g11 n R = some 0 := by
  refine ⟨by rw [names_good n hn hR, nms_perm hp], ?_, (hR.ok hn).1⟩
  rw [equal_val n hn _ _ (by rw [nms_len]; exact hl.all), decide_eq_true rfl]
theorem keeps_law (l : List TConfigGroup) (a b : ByteArray) (names : List ByteArray) (hN : names.length ≤ 4611686018427387904) : g3 (names.length + 100) l a b names = some true := by
  generalize hnn : names.length + 100 = n
  have hn : 30 < n := by omega
  unfold g3
  rw [show g6 n = some true from rfl, Option.bind_some, Bool.not_true, cond_false]
  by_cases hl : CfGd (Vn n) l
  case neg =>
    obtain ⟨e, he, h1⟩ := names_bad n hn hl
    rw [h1, Option.bind_some]
    simp only [bne_iff_ne.2 he, cond_true]
  rw [names_good n hn hl, Option.bind_some]
  simp only [show ((0 : Int) != 0) = false from rfl, cond_false]
  obtain ⟨M, e, hM, kM, -⟩ := comb_val n hn hl a b
  obtain ⟨N, f, hN, kN, -⟩ := split_val n hn hl a b names (by omega) (by omega)
  rw [hM, Option.bind_some, hN, Option.bind_some]
  have okM : e = 0 → g7 n M = some (nms l, 0) ∧ g10 n (nms l) (nms l) = some true ∧ g11 n M = some 0 := fun h0 => by
    obtain ⟨x, y, z, hc, -, -⟩ := kM h0
    exact keep_step n hn hl (hc.good hl) hc.flat
  have okN : f = 0 → g7 n N = some (nms l, 0) ∧ g10 n (nms l) (nms l) = some true ∧ g11 n N = some 0 := fun h0 => by
    obtain ⟨x, u, v, hc, -, hv, hV⟩ := kN h0
    exact keep_step n hn hl (hc.good hl (by rw [hv]; exact hV)) hc.flat
  refine iterO_eq (S := fun y : Int => S3_0 n false (nms l) e f [M, N] (2 : Int) y) (fun y => y = 0 ∨ y = 1 ∨ y = 2) true (fun y => 2 - y.toNat) ?_ n 0 (.inl rfl) (by show 2 - (0 : Int).toNat < n; omega)
  rintro _ (rfl | rfl | rfl)
  · left
    refine ⟨1, ?_, .inr (.inl rfl), by decide⟩
    show S3_0 n false (nms l) e f [M, N] (2 : Int) 0 = _
    unfold S3_0
    rw [show decide ((0 : Int) < 2) = true from rfl, cond_true, show getI [M, N] 0 = some M from rfl, Option.bind_some, show ((0 : Int) == 0) = true from rfl, cond_true]
    by_cases h0 : e = 0
    · obtain ⟨h1, h2, h3⟩ := okM h0
      rw [h0, show ((0 : Int) != 0) = false from rfl, cond_false, show ((0 : Int) == 1) = false from rfl, cond_false, h1, Option.bind_some]
      simp only [show ((0 : Int) != 0) = false from rfl, cond_false]
      rw [h2, Option.bind_some, Bool.not_true, cond_false, h3, Option.bind_some]
      rfl
    · rw [bne_iff_ne.2 h0, cond_true]; rfl
  · left
    refine ⟨2, ?_, .inr (.inr rfl), by decide⟩
    show S3_0 n false (nms l) e f [M, N] (2 : Int) 1 = _
    unfold S3_0
    rw [show decide ((1 : Int) < 2) = true from rfl, cond_true, show getI [M, N] 1 = some N from rfl, Option.bind_some, show ((1 : Int) == 0) = false from rfl, cond_false, show ((1 : Int) == 1) = true from rfl, cond_true]
    by_cases h0 : f = 0
    · obtain ⟨h1, h2, h3⟩ := okN h0
      rw [h0, show ((0 : Int) != 0) = false from rfl, cond_false, h1, Option.bind_some]
      simp only [show ((0 : Int) != 0) = false from rfl, cond_false]
      rw [h2, Option.bind_some, Bool.not_true, cond_false, h3, Option.bind_some]
      rfl
    · rw [bne_iff_ne.2 h0, cond_true]; rfl
  · right
    show S3_0 n false (nms l) e f [M, N] (2 : Int) 2 = _
    unfold S3_0
    rfl
theorem fnd_own {V : ByteArray → Prop} {l : List TConfigGroup} (h : CfGd V l) {p s : ByteArray} (ho : CfOwn l p s) : fnd l s = p := by
  unfold fnd
  cases hf : l.find? (fun g => !(!has g.Sectors s)) with
  | some q =>
    have h1 := List.mem_of_find?_eq_some hf
    have h2 := List.find?_some hf
    exact own_one h.dup ⟨q, h1, rfl, has_iff.1 (by simpa using h2)⟩ ho
  | none =>
    obtain ⟨g, hg, -, hs⟩ := ho
    have := List.find?_eq_none.1 hf g hg
    rw [has_iff.2 hs] at this
    simp at this
theorem moves_same (n : Nat) (hn : 30 < n) {a b : List TConfigGroup} (ha : CfGd (Vn n) a) (hb : CfGd (Vn n) b) (h : ∀ p s, CfOwn b p s ↔ CfOwn a p s) : g12 n a b = some ([], 0) := by
  have hp : (a.flatMap (·.Sectors)).Perm (b.flatMap (·.Sectors)) := (List.perm_ext_iff_of_nodup ha.dup hb.dup).2 fun s => by
    rw [own_flat, own_flat]
    exact ⟨fun ⟨p, k⟩ => ⟨p, (h p s).2 k⟩, fun ⟨p, k⟩ => ⟨p, (h p s).1 k⟩⟩
  rw [moves_val n hn a b (ha.ok hn).1 (ha.ok hn).2 (hb.ok hn).1 (hb.ok hn).2, if_pos (nms_perm hp)]
  congr 2
  rw [List.flatMap_eq_nil_iff]
  intro s hs
  have hs' : s ∈ a.flatMap (·.Sectors) := (sortS_perm _).mem_iff.1 hs
  obtain ⟨p, k⟩ := own_flat.1 hs'
  unfold mv
  rw [fnd_own ha k, fnd_own hb ((h p s).2 k)]
  simp
theorem moves_any (n : Nat) (hn : 30 < n) (a b : List TConfigGroup) : ∃ r, g12 n a b = some r := by
  by_cases ha : CfGd (Vn n) a
  · by_cases hb : CfGd (Vn n) b
    · exact ⟨_, moves_val n hn a b (ha.ok hn).1 (ha.ok hn).2 (hb.ok hn).1 (hb.ok hn).2⟩
    · obtain ⟨z, hz, k⟩ := check_iff n hn b
      obtain ⟨z', -, k'⟩ := moves_err n hn a b fun _ _ y hy => .inr fun e => by rw [hz] at hy; cases hy; exact hb (k.1 e)
      exact ⟨_, k'⟩
  · obtain ⟨z, hz, k⟩ := check_iff n hn a
    obtain ⟨z', -, k'⟩ := moves_err n hn a b fun y hy _ _ => .inl fun e => by rw [hz] at hy; cases hy; exact ha (k.1 e)
    exact ⟨_, k'⟩
/- combining undoes splitting -/
theorem inv1 (n : Nat) (hn : 30 < n) {l R : List TConfigGroup} (hl : CfGd (Vn n) l) {x u v : TConfigGroup} {w : ByteArray → Bool} (hs : Spl l R x u v w) (hv : Vn n v.Position) : ∃ M, g8 n R x.Position v.Position = some (M, 0) ∧ g12 n l M = some ([], 0) := by
  have hR := hs.good hl hv
  obtain ⟨E, h1, h2⟩ := hs.was
  have hxl : x ∈ l := h1.mem_iff.1 (by simp)
  obtain ⟨M, c, hM, k1, k2⟩ := comb_val n hn hR x.Position v.Position
  have hc : c = 0 := k2 ⟨u, h2.mem_iff.2 (by simp), hs.pu⟩ ⟨v, h2.mem_iff.2 (by simp), rfl⟩ (hs.new x hxl)
  subst hc
  obtain ⟨x', y', z', hC, e1, e2⟩ := k1 rfl
  refine ⟨M, hM, moves_same n hn hl (hC.good hR) fun p s => ?_⟩
  have hne : x.Position ≠ v.Position := hs.new x hxl
  have hno : ∀ s, ¬ CfOwn l v.Position s := fun s ⟨g, hg, e, _⟩ => hs.new g hg e
  rw [hC.own hR, e1, e2, hs.own hl, hs.own hl, hs.own hl]
  constructor
  · rintro (⟨rfl, (⟨-, k, -⟩ | ⟨q, -⟩ | ⟨q, -⟩) | (⟨q, -⟩ | ⟨-, k, -⟩ | ⟨-, q, -⟩)⟩ | ⟨q1, q2, ⟨q, -⟩ | ⟨q, -⟩ | ⟨-, -, k⟩⟩)
    · exact k
    · exact absurd q hne
    · exact absurd rfl q
    · exact absurd q.symm hne
    · exact k
    · exact absurd rfl q
    · exact absurd q q1
    · exact absurd q q2
    · exact k
  · intro k
    by_cases hp : p = x.Position
    · subst hp
      left
      refine ⟨rfl, ?_⟩
      cases hw : w s with
      | false => exact .inl (.inl ⟨rfl, k, rfl⟩)
      | true => exact .inr (.inr (.inl ⟨rfl, k, rfl⟩))
    · have hp2 : p ≠ v.Position := fun e => hno s (e ▸ k)
      exact .inr ⟨hp, hp2, .inr (.inr ⟨hp, hp2, k⟩)⟩
/- splitting undoes combining -/
theorem inv2 (n : Nat) (hn : 50 < n) {l R : List TConfigGroup} (hl : CfGd (Vn n) l) {x y z : TConfigGroup} (hC : Comb l R x y z) : y ∈ l ∧ ∃ M, g9 n R x.Position y.Position y.Sectors = some (M, 0) ∧ g12 n l M = some ([], 0) := by
  have hR := hC.good hl
  have hC' := hC
  obtain ⟨E, h1, h2⟩ := hC.was
  have hxl : x ∈ l := h1.mem_iff.1 (by simp)
  have nl := pos_ne hl.pos
  have nx : ((x :: E).map (·.Position)).Nodup := (h1.map _).nodup_iff.2 nl
  have nz : ((z :: E).map (·.Position)).Nodup := by rw [List.map_cons, hC.pz]; exact nx
  have ny : ((y :: R).map (·.Position)).Nodup := (h2.map _).nodup_iff.2 nz
  rw [List.map_cons, List.nodup_cons] at ny
  have hyl : y ∈ l := by
    have : y ∈ z :: E := h2.mem_iff.1 (by simp)
    rcases List.mem_cons.1 this with e | e
    · exact absurd (by rw [← hC.pz, ← e]) hC.ne
    · exact h1.mem_iff.1 (by simp [e])
  have hzR : z ∈ R := by
    have : z ∈ y :: R := h2.mem_iff.2 (by simp)
    rcases List.mem_cons.1 this with e | e
    · exact absurd (by rw [← hC.pz, e]) hC.ne
    · exact e
  refine ⟨hyl, ?_⟩
  have hylen : y.Sectors.length ≤ 12 := Nat.le_trans (sec_sub hyl) hl.all
  have hsame : ∀ s, CfOwn l y.Position s ↔ s ∈ y.Sectors := fun s => ⟨fun ⟨g, hg, e, k⟩ => by rw [mem_inj nl hg hyl e] at k; exact k, fun k => ⟨y, hyl, rfl, k⟩⟩
  obtain ⟨M, c, hM, k1, k2⟩ := split_val n (by omega) hR x.Position y.Position y.Sectors (by omega) (by omega)
  have hc : c = 0 := by
    refine k2 z hzR hC.pz (hl.nam y hyl).1 (fun g hg e => ny.1 (List.mem_map.2 ⟨g, hg, e⟩)) (fun s hs => hC.sz.mem_iff.2 (List.mem_append.2 (.inr hs))) ?_ ?_
    · have := (hl.nam y hyl).2.1
      obtain ⟨s, hs⟩ := List.exists_mem_of_ne_nil _ this
      exact ⟨s, hC.sz.mem_iff.2 (List.mem_append.2 (.inr hs)), hs⟩
    · have := (hl.nam x hxl).2.1
      obtain ⟨s, hs⟩ := List.exists_mem_of_ne_nil _ this
      exact ⟨s, hC.sz.mem_iff.2 (List.mem_append.2 (.inl hs)), fun q => hC.ne (own_one hl.dup ⟨x, hxl, rfl, hs⟩ ⟨y, hyl, rfl, q⟩)⟩
  subst hc
  obtain ⟨x', u, v, hS, e1, e2, hV⟩ := k1 rfl
  refine ⟨M, hM, moves_same n (by omega) hl (hS.good hR (by rw [e2]; exact hV)) fun p s => ?_⟩
  have hne := hC.ne
  rw [hS.own hR, e1, e2, hC.own hl, hC.own hl]
  have hw : has y.Sectors s = true ↔ CfOwn l y.Position s := by rw [has_iff, hsame]
  have hw' : has y.Sectors s = false ↔ ¬ CfOwn l y.Position s := by rw [← hw]; simp
  rw [hw, hw']
  constructor
  · rintro (⟨rfl, ⟨-, k | k⟩ | ⟨q, -⟩, r⟩ | ⟨rfl, -, k⟩ | ⟨q1, q2, ⟨q, -⟩ | ⟨-, -, k⟩⟩)
    · exact k
    · exact absurd k r
    · exact absurd rfl q
    · exact k
    · exact absurd q q1
    · exact k
  · intro k
    by_cases hp : p = x.Position
    · subst hp
      exact .inl ⟨rfl, .inl ⟨rfl, .inl k⟩, fun q => hne (own_one hl.dup k q)⟩
    · by_cases hp2 : p = y.Position
      · subst hp2
        exact .inr (.inl ⟨rfl, .inl ⟨rfl, .inr k⟩, k⟩)
      · exact .inr (.inr ⟨hp, hp2, .inr ⟨hp, hp2, k⟩⟩)
theorem inverts_tail (n : Nat) (hn : 50 < n) {l : List TConfigGroup} (hl : CfGd (Vn n) l) {a b : ByteArray} {x y z : TConfigGroup} {R : List TConfigGroup} (hC : Comb l R x y z) (ea : x.Position = a) (eb : y.Position = b) : ∃ i : Int, g13_1 n l b = some i ∧ ¬ i < 0 ∧ getI l i = some y ∧ ∃ M, g9 n R a b y.Sectors = some (M, 0) ∧ g12 n l M = some ([], 0) := by
  obtain ⟨hyl, M, hM, hm⟩ := inv2 n hn hl hC
  rw [ea, eb] at hM
  have hlen := (hl.ok (by omega : 30 < n)).2.len
  have hi : ¬ idxL (isP b) l < 0 := fun q => idx_no.1 q y hyl eb
  obtain ⟨y', h1, h2⟩ := idx_yes hi
  have : y' = y := mem_inj (pos_ne hl.pos) (List.mem_of_getElem? h1) hyl (by rw [h2, eb])
  subst this
  refine ⟨_, idx1_val n l (by omega) (by omega) b, hi, ?_, M, hM, hm⟩
  have e : idxL (isP b) l = (((idxL (isP b) l).toNat : Nat) : Int) := by omega
  rw [e]
  exact getI_at h1
theorem inverts_law (l : List TConfigGroup) (a b : ByteArray) (names : List ByteArray) (hN : names.length ≤ 4611686018427387904) : g4 (names.length + 100) l a b names = some true := by
  generalize hnn : names.length + 100 = n
  have hn : 30 < n := by omega
  unfold g4
  rw [show g6 n = some true from rfl, Option.bind_some, Bool.not_true, cond_false]
  by_cases hl : CfGd (Vn n) l
  case neg =>
    obtain ⟨e, he, h1⟩ := split_bad n hn hl a b names
    obtain ⟨f, hf, h2⟩ := comb_bad n hn hl a b
    rw [h1, Option.bind_some, h2]
    simp only [beq_eq_false_iff_ne.2 he, bne_iff_ne.2 hf, cond_false, cond_true, Option.bind_some]
  obtain ⟨R, c, hR, k, -⟩ := split_val n hn hl a b names (by omega) (by omega)
  obtain ⟨M, f, hM, q, -⟩ := comb_val n hn hl a b
  rw [hR, Option.bind_some, hM]
  by_cases hf : f = 0
  · subst hf
    obtain ⟨x, y, z, hC, ea, eb⟩ := q rfl
    obtain ⟨i, hi, hi0, hy, Q, hQ, hm⟩ := inverts_tail n (by omega) hl hC ea eb
    rw [hi]
    by_cases hc : c = 0
    · subst hc
      obtain ⟨x', u, v, hS, e1, e2, hV⟩ := k rfl
      obtain ⟨M', g1, g2⟩ := inv1 n hn hl hS (by rw [e2]; exact hV)
      rw [e1, e2] at g1
      rw [g1]
      simp only [show ((0 : Int) == 0) = true from rfl, show ((0 : Int) != 0) = false from rfl, cond_true, cond_false, Option.bind_some, g2, decide_eq_false hi0, hy, hQ, hm, List.length_nil]
      rfl
    · simp only [beq_eq_false_iff_ne.2 hc, show ((0 : Int) == 0) = true from rfl, show ((0 : Int) != 0) = false from rfl, cond_true, cond_false, Option.bind_some, decide_eq_false hi0, hy, hQ, hm, List.length_nil]
      rfl
  · by_cases hc : c = 0
    · subst hc
      obtain ⟨x', u, v, hS, e1, e2, hV⟩ := k rfl
      obtain ⟨M', g1, g2⟩ := inv1 n hn hl hS (by rw [e2]; exact hV)
      rw [e1, e2] at g1
      rw [g1]
      simp only [show ((0 : Int) == 0) = true from rfl, show ((0 : Int) != 0) = false from rfl, cond_true, cond_false, Option.bind_some, g2, bne_iff_ne.2 hf, List.length_nil]
      rfl
    · simp only [beq_eq_false_iff_ne.2 hc, cond_false, Option.bind_some, bne_iff_ne.2 hf, cond_true]
end Go.Proofs.Ythjcdlbkdobmiaa
