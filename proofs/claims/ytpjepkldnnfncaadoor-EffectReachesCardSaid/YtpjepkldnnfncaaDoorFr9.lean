/- The tube after a climb: its nodes are in order, and every later node has the height of its time. -/
import Derived.Test.YtpjepkldnnfncaaDoorFr8
set_option linter.unusedVariables false
set_option linter.unusedSimpArgs false
namespace Go.Proofs.YtpjepkldnnfncaaDoor

def Srt (l : List TTubeNode) : Prop := l.Pairwise fun a b => a.Node_Time < b.Node_Time
theorem TubeOk.srt {l : List TTubeNode} (h : TubeOk l) : Srt l :=
  List.pairwise_iff_getElem.2 fun i j hi hj hij => h.lt' hij (List.getElem?_eq_getElem hi) (List.getElem?_eq_getElem hj)
theorem Srt.lt {l : List TTubeNode} (h : Srt l) {i j : Nat} {x y : TTubeNode} (hij : i < j) (hx : l[i]? = some x) (hy : l[j]? = some y) : x.Node_Time < y.Node_Time := by
  obtain ⟨h1, rfl⟩ := List.getElem?_eq_some_iff.1 hx
  obtain ⟨h2, rfl⟩ := List.getElem?_eq_some_iff.1 hy
  exact List.pairwise_iff_getElem.1 h i j h1 h2 hij
theorem Srt.le {l : List TTubeNode} (h : Srt l) {i j : Nat} {x y : TTubeNode} (hij : i ≤ j) (hx : l[i]? = some x) (hy : l[j]? = some y) : x.Node_Time ≤ y.Node_Time := by
  rcases Nat.lt_or_eq_of_le hij with k | rfl
  · exact Int.le_of_lt (h.lt k hx hy)
  · rw [hx] at hy; cases hy; exact Int.le_refl _
theorem Srt.adj {m : List TTubeNode} (h : Srt m) {i : Nat} {a b c : TTubeNode} (ha : m[i]? = some a) (hb : m[i + 1]? = some b) (hc : c ∈ m) : c.Node_Time ≤ a.Node_Time ∨ b.Node_Time ≤ c.Node_Time := by
  obtain ⟨j, hj⟩ := List.getElem?_of_mem hc
  rcases Nat.lt_or_ge i j with k | k
  · exact .inr (h.le k hb hj)
  · exact .inl (h.le k hj ha)
structure MidOk (t N : Int) (M : List TTubeNode) : Prop where
  srt : Srt M
  nodes : ∀ x ∈ M, NodeB x
  after : ∀ x ∈ M, t < x.Node_Time
  stop : ∀ x ∈ M, t + N < x.Node_Time → 0 < N → ∃ y ∈ M, y.Node_Time = t + N
theorem hN_time (h0 to t0 N : Int) (x : TTubeNode) : (hN h0 to t0 N x).Node_Time = x.Node_Time := rfl
theorem m_mem {l M : List TTubeNode} {now x : TTubeNode} {h0 to t N : Int} (hx : x ∈ bef l t ++ now :: M.map (hN h0 to t N)) : (x ∈ l ∧ x.Node_Time < t) ∨ x = now ∨ ∃ y ∈ M, x = hN h0 to t N y := by
  rcases List.mem_append.1 hx with k | k
  · exact .inl (by simpa [bef] using k)
  rcases List.mem_cons.1 k with k | k
  · exact .inr (.inl k)
  obtain ⟨y, hy, e⟩ := List.mem_map.1 k
  exact .inr (.inr ⟨y, hy, e.symm⟩)
theorem m_srt {l M : List TTubeNode} {now : TTubeNode} {h0 to t N : Int} (hl : TubeOk l) (ht : now.Node_Time = t) (hM : MidOk t N M) : Srt (bef l t ++ now :: M.map (hN h0 to t N)) := by
  refine List.pairwise_append.2 ⟨List.Pairwise.filter _ hl.srt, List.pairwise_cons.2 ⟨fun x hx => ?_, List.pairwise_map.2 hM.srt⟩, fun x hx y hy => ?_⟩
  · obtain ⟨y, hy, rfl⟩ := List.mem_map.1 hx
    rw [ht]; exact hM.after y hy
  · have hx' : x.Node_Time < t := by have := (List.mem_filter.1 hx).2; simpa using this
    rcases List.mem_cons.1 hy with k | k
    · rw [k, ht]; exact hx'
    · obtain ⟨z, hz, rfl⟩ := List.mem_map.1 k
      have := hM.after z hz
      rw [hN_time]; omega
theorem m_ok {k : TKind} {l M : List TTubeNode} {now : TTubeNode} {to t N : Int} (hl : TubeOk l) (hnow : NodeB now) (ht : now.Node_Time = t) (hM : MidOk t N M) (hc : ClimbOk k now.Node_Height to N) (hlen : (bef l t ++ now :: M.map (hN now.Node_Height to t N)).length ≤ 64) :
    TubeOk (bef l t ++ now :: M.map (hN now.Node_Height to t N)) := by
  refine ⟨by simp; omega, hlen, fun x hx => ?_, fun i x y hx hy => (m_srt hl ht hM).lt (Nat.lt_succ_self i) hx hy⟩
  rcases m_mem hx with ⟨k, -⟩ | rfl | ⟨y, hy, rfl⟩
  · exact hl.nodes x k
  · exact hnow
  · obtain ⟨c1, c2, c3, c4, c5, c6, c7, c8, c9⟩ := hM.nodes y hy
    have := hM.after y hy
    have := hgt_range (t0 := t) (u := y.Node_Time) hc (by omega)
    have h1 := hc.hh
    have h2 := hc.hto
    exact ⟨c1, c2, c3, by show 0 ≤ hgt _ _ _ _ _; omega, by show hgt _ _ _ _ _ ≤ _; omega, c6, c7, c8, c9⟩
theorem m_hgt {k : TKind} {l M : List TTubeNode} {now x : TTubeNode} {to t N : Int} (ht : now.Node_Time = t) (hc : ClimbOk k now.Node_Height to N) (hx : x ∈ bef l t ++ now :: M.map (hN now.Node_Height to t N)) (hu : t ≤ x.Node_Time) :
    x.Node_Height = hgt now.Node_Height to t N x.Node_Time := by
  rcases m_mem hx with ⟨-, k⟩ | rfl | ⟨y, hy, rfl⟩
  · omega
  · rw [ht, hgt_start hc]
  · rfl
theorem m_hok {k : TKind} {l M : List TTubeNode} {now r : TTubeNode} {to t N u : Int} (hl : TubeOk l) (ht : now.Node_Time = t) (hM : MidOk t N M) (hc : ClimbOk k now.Node_Height to N) (hu : t < u) (hr : r.Node_Time = u)
    (h : (∃ i : Nat, (bef l t ++ now :: M.map (hN now.Node_Height to t N))[i]? = some r) ∨ ∃ (i : Nat) (a b : TTubeNode), (bef l t ++ now :: M.map (hN now.Node_Height to t N))[i]? = some a ∧ (bef l t ++ now :: M.map (hN now.Node_Height to t N))[i + 1]? = some b ∧ a.Node_Time < u ∧ u < b.Node_Time ∧ r.Node_Height = a.Node_Height + ((b.Node_Height - a.Node_Height) * (u - a.Node_Time)) / (b.Node_Time - a.Node_Time)) :
    HOk k now.Node_Height to t N u r.Node_Height := by
  rcases h with ⟨i, hi⟩ | ⟨i, a, b, ha, hb, h1, h2, e⟩
  · rw [m_hgt ht hc (List.mem_of_getElem? hi) (by omega), hr]
    exact hok_node hc (by omega)
  · have hs := m_srt (h0 := now.Node_Height) (to := to) hl ht hM
    have ma := List.mem_of_getElem? ha
    have mb := List.mem_of_getElem? hb
    have hta : t ≤ a.Node_Time := by
      have := hs.adj ha hb (c := now) (List.mem_append.2 (.inr (List.mem_cons_self ..)))
      omega
    rw [e, m_hgt ht hc ma hta, m_hgt ht hc mb (by omega)]
    refine hok_seg hc hta h1 h2 ?_
    by_cases h3 : b.Node_Time ≤ t + N
    · exact .inl h3
    by_cases h4 : t + N ≤ a.Node_Time
    · exact .inr h4
    exfalso
    have hN0 : 0 < N := by omega
    rcases m_mem mb with ⟨-, k⟩ | rfl | ⟨y, hy, rfl⟩
    · omega
    · omega
    · obtain ⟨z, hz, ez⟩ := hM.stop y hy (by rw [hN_time] at h3; omega) hN0
      have := hs.adj ha hb (c := hN now.Node_Height to t N z) (List.mem_append.2 (.inr (List.mem_cons_of_mem _ (List.mem_map.2 ⟨z, hz, rfl⟩))))
      rw [hN_time, ez] at this
      omega
/- a node at the time of the end, put in where it is missing -/
theorem mid_plain {t N : Int} {l : List TTubeNode} (hl : TubeOk l) (h : N ≤ 0 ∨ (∀ x ∈ lat l t, x.Node_Time ≤ t + N) ∨ ∃ y ∈ lat l t, y.Node_Time = t + N) : MidOk t N (lat l t) := by
  refine ⟨List.Pairwise.filter _ hl.srt, fun x hx => hl.nodes x (lat_mem.1 hx).1, fun x hx => (lat_mem.1 hx).2, fun x hx h1 h2 => ?_⟩
  rcases h with k | k | k
  · omega
  · have := k x hx; omega
  · exact k
theorem mid_ins {t N : Int} {l : List TTubeNode} (hl : TubeOk l) (hN0 : 0 < N) {i : Nat} {x y : TTubeNode} (hx : (lat l t)[i]? = some x) (h1 : x.Node_Time > t + N) (h2 : ∀ j, j < i → ∀ z, (lat l t)[j]? = some z → z.Node_Time < t + N) (hy : NodeB y) (ht : y.Node_Time = t + N) : MidOk t N ((lat l t).take i ++ y :: (lat l t).drop i) := by
  have hs : Srt (lat l t) := List.Pairwise.filter _ hl.srt
  have lo : ∀ z ∈ (lat l t).take i, z.Node_Time < t + N := fun z hz => by
    obtain ⟨j, hj⟩ := List.getElem?_of_mem hz
    rw [List.getElem?_take] at hj
    split at hj
    · rename_i hlt; exact h2 j hlt z hj
    · cases hj
  have hi : ∀ z ∈ (lat l t).drop i, t + N < z.Node_Time := fun z hz => by
    obtain ⟨j, hj⟩ := List.getElem?_of_mem hz
    rw [List.getElem?_drop] at hj
    have := hs.le (Nat.le_add_right i j) hx hj
    omega
  have mem : ∀ z ∈ (lat l t).take i ++ y :: (lat l t).drop i, z ∈ lat l t ∨ z = y := fun z hz => by
    rcases List.mem_append.1 hz with k | k
    · exact .inl (List.mem_of_mem_take k)
    rcases List.mem_cons.1 k with k | k
    · exact .inr k
    · exact .inl (List.mem_of_mem_drop k)
  refine ⟨List.pairwise_append.2 ⟨hs.sublist (List.take_sublist ..), List.pairwise_cons.2 ⟨fun z hz => by have := hi z hz; omega, hs.sublist (List.drop_sublist ..)⟩, fun z hz w hw => ?_⟩, fun z hz => ?_, fun z hz => ?_, fun _ _ _ _ => ⟨y, List.mem_append.2 (.inr (List.mem_cons_self ..)), ht⟩⟩
  · have := lo z hz
    rcases List.mem_cons.1 hw with k | k
    · rw [k]; omega
    · have := hi w k; omega
  · rcases mem z hz with k | rfl
    · exact hl.nodes z (lat_mem.1 k).1
    · exact hy
  · rcases mem z hz with k | rfl
    · exact (lat_mem.1 k).2
    · omega
end Go.Proofs.YtpjepkldnnfncaaDoor
