/- WakePasses returns true at every input. -/
import Derived.Test.YtfmodgffhbljoaaWakeFact
import Derived.Test.YtfmodgffhbljoaaCloneInt
import Derived.Deep.RegionHeld3
import Derived.Deep.AppendLies
import Derived.Deep.MidRow
import Derived.Deep.DrawnRows
namespace Go.Proofs.Ytfmodgffhbljoaa
open Go.RowKit
attribute [local go_sem ↓] Go.wp_at_zero Go.wp_at_succ

theorem wchk_tri0 {x : Nat → Int} (h : wchk x = 0) : ∀ a b c, a < 4 → b < 4 → c < 4 → tri x a b c := by
  unfold wchk at h
  split at h
  · split at h
    · assumption
    · omega
  · omega
theorem gapv_tri {x : Nat → Int} (h : wchk x = 0) {i j k : Int} (hi : clsOk i) (hj : clsOk j) (hk : clsOk k) : gapv x i k ≤ gapv x i j + gapv x j k := by
  unfold clsOk at hi hj hk
  exact wchk_tri0 h i.toNat j.toNat k.toNat (by omega) (by omega) (by omega)
theorem gap_lst {x z : Nat → Int} {n : Nat} (h : clss x n z = 0) : ∀ m, m + 1 < n → gapv x (z 0) (z (m + 1)) ≤ lst x z (m + 2) := by
  obtain ⟨hw, -, hc⟩ := clss_zero h
  intro m
  induction m with
  | zero => intro _; simp [lst]
  | succ m ih =>
    intro hm
    have h1 := ih (by omega)
    have h2 := gapv_tri hw (hc 0 (by omega)) (hc (m + 1) (by omega)) (hc (m + 1 + 1) (by omega))
    simp only [lst] at h1 ⊢
    omega
theorem lst_congr {x z z' : Nat → Int} : ∀ m, (∀ k, k < m → z k = z' k) → lst x z m = lst x z' m := by
  intro m
  induction m with
  | zero => intro _; rfl
  | succ m ih =>
    intro h
    cases m with
    | zero => rfl
    | succ m =>
      simp only [lst]
      rw [ih (fun k hk => h k (by omega)), h m (by omega), h (m + 1) (by omega)]
def snoc (z : Nat → Int) (n : Nat) (k : Int) : Nat → Int := fun j => if j < n then z j else k
theorem lst_snoc {x z : Nat → Int} {n : Nat} {k : Int} (hn : 2 ≤ n) (h : clss x (n + 1) (snoc z n k) = 0) : lst x z n + 30 ≤ lst x (snoc z n k) (n + 1) := by
  obtain ⟨hw, -, hc⟩ := clss_zero h
  obtain ⟨m, rfl⟩ : ∃ m, n = m + 1 := ⟨n - 1, by omega⟩
  have h1 := gapv_in hw (hc m (by omega)) (hc (m + 1) (by omega))
  rw [lst, lst_congr (z := z) (z' := snoc z (m + 1) k) (m + 1) (fun j hj => by unfold snoc; rw [if_pos hj])]
  omega
theorem own_ints {w : World} {base : Nat} {E : TypeId} {g n cap : Nat} {xs : List Value} (h : w.ownsRow base E 1 (.slice (some ⟨g, 0, none⟩) n cap) n xs) (z : Nat → Int) (hz : ∀ k, k < n → xs[k]? = some (.int .i64 (z k))) :
    n ≤ cap ∧ cap ≤ maxLen ∧ IntsAt w (some ⟨g, 0, none⟩) n z := by
  obtain ⟨a, c, he, h1, h2, -, h4⟩ := ownsRow_at h (fun k => .int .i64 (z k)) (fun k hk => hz k (by omega))
  obtain ⟨rfl, -, rfl⟩ : some ⟨g, 0, none⟩ = a ∧ n = n ∧ cap = c := by simpa using he
  exact ⟨h1, h2, h4⟩
theorem snoc_row (z : Nat → Int) (n : Nat) (k : Int) : ∀ j, j < n + 1 → ((List.range (n * 1)).map (fun j => Value.int .i64 (z j)) ++ [.int .i64 k])[j]? = some (.int .i64 (snoc z n k j)) := by
  intro j hj
  unfold snoc
  by_cases h : j < n
  · rw [if_pos h, List.getElem?_append_left (by simpa using h)]
    simp [h]
  · obtain rfl : j = n := by omega
    rw [if_neg h, List.getElem?_append_right (by simp)]
    simp

theorem Blk.range {w : World} {b : Nat} {l : List Value} {t : TypeId} (h : Blk w b (.cells l.toArray t)) : w.rangeAt b 0 l := fun j v hv => by
  rw [Nat.zero_add, h.cell]; simpa using hv

set_option maxRecDepth 100000 in
set_option maxHeartbeats 2000000 in
theorem passes_any (x : Nat → Int) (a : Option Addr) (n c : Nat) (z : Nat → Int) (k : Int) (w : World) (hn : n ≤ c) (hc : c ≤ maxLen) (hR : IntsAt w a n z) :
    Calls Try.prog 3 #[.agg #[.int .i64 (x 0), .int .i64 (x 1), .int .i64 (x 2), .int .i64 (x 3), .int .i64 (x 4), .int .i64 (x 5), .int .i64 (x 6), .int .i64 (x 7), .int .i64 (x 8), .int .i64 (x 9), .int .i64 (x 10), .int .i64 (x 11), .int .i64 (x 12), .int .i64 (x 13), .int .i64 (x 14), .int .i64 (x 15)], .slice a n c, .int .i64 k] w fun e w' => e = .returned (.bool true) ∧ Below w.heap.size w w' := by
  have HRow := Lib.hid hR; clear hR
  have HC := Lib.hid hc; 
  unfold maxLen at hc
  go_enter Try.func3, Try.ntmps3
  go_wp2_with fail
  refine (wakeFact_any _).mono ?_
  rintro e w1 ⟨rfl, hb⟩
  have HT := Blk.after (Blk.new w _) hb
  have HT2 := Lib.hid HT; clear HT
  have hB : Below w.heap.size w w1 := Below.step (by go_grown) hb (by go_size)
  clear hb
  by_cases hs : n < 2
  · have hd : decide (n < 2) = true := by simpa using hs
    go_wp2_with fail
    go_returns
    exact ⟨rfl, hB⟩
  have hd : decide (n < 2) = false := by simpa using hs
  by_cases hs2 : 60 < n
  · have hd2 : decide (60 < n) = true := by simpa using hs2
    go_wp2_with fail
    go_returns
    exact ⟨rfl, hB⟩
  have hd2 : decide (60 < n) = false := by simpa using hs2
  obtain ⟨b, off, rfl, hbl, hcell⟩ := (HRow.out.below hB (Nat.le_refl _)) (by omega)
  clear hcell
  have lB := HT2.out.lt
  have ct0 := tab_cell HT2.out 0 (by decide)
  have ct1 := tab_cell HT2.out 1 (by decide)
  have ct2 := tab_cell HT2.out 2 (by decide)
  have ct3 := tab_cell HT2.out 3 (by decide)
  have ct4 := tab_cell HT2.out 4 (by decide)
  have ct5 := tab_cell HT2.out 5 (by decide)
  have ct6 := tab_cell HT2.out 6 (by decide)
  have ct7 := tab_cell HT2.out 7 (by decide)
  have ct8 := tab_cell HT2.out 8 (by decide)
  have ct9 := tab_cell HT2.out 9 (by decide)
  have ct10 := tab_cell HT2.out 10 (by decide)
  have ct11 := tab_cell HT2.out 11 (by decide)
  have ct12 := tab_cell HT2.out 12 (by decide)
  have ct13 := tab_cell HT2.out 13 (by decide)
  have ct14 := tab_cell HT2.out 14 (by decide)
  have ct15 := tab_cell HT2.out 15 (by decide)
  go_wp2_with fail
  refine (least_any x _ n c z _ hn HC.out (HRow.out.below hB (Nat.le_refl _))).mono ?_
  rintro e w2 ⟨rfl, hb⟩
  obtain ⟨v1, hv1, hv1a, hv1b⟩ := valErr_form (lst x z n) (clss x n z)
  rw [hv1]
  have HV1 := Lib.hid hv1; have HV1a := Lib.hid hv1a; have HV1b := Lib.hid hv1b; clear hv1 hv1a hv1b
  generalize he1 : clss x n z = e1
  have HE1 := Lib.hid he1; clear he1
  replace HT2 := Lib.hid (HT2.out.after hb)
  replace hB : Below w.heap.size w w2 := Below.step hB hb (by have := hB.size; omega)
  clear hb ct0 ct1 ct2 ct3 ct4 ct5 ct6 ct7 ct8 ct9 ct10 ct11 ct12 ct13 ct14 ct15 lB
  have lB := HT2.out.lt
  have ct0 := tab_cell HT2.out 0 (by decide)
  have ct1 := tab_cell HT2.out 1 (by decide)
  have ct2 := tab_cell HT2.out 2 (by decide)
  have ct3 := tab_cell HT2.out 3 (by decide)
  have ct4 := tab_cell HT2.out 4 (by decide)
  have ct5 := tab_cell HT2.out 5 (by decide)
  have ct6 := tab_cell HT2.out 6 (by decide)
  have ct7 := tab_cell HT2.out 7 (by decide)
  have ct8 := tab_cell HT2.out 8 (by decide)
  have ct9 := tab_cell HT2.out 9 (by decide)
  have ct10 := tab_cell HT2.out 10 (by decide)
  have ct11 := tab_cell HT2.out 11 (by decide)
  have ct12 := tab_cell HT2.out 12 (by decide)
  have ct13 := tab_cell HT2.out 13 (by decide)
  have ct14 := tab_cell HT2.out 14 (by decide)
  have ct15 := tab_cell HT2.out 15 (by decide)
  obtain ⟨b', off', he, hbl', hcell⟩ := (HRow.out.below hB (Nat.le_refl _)) (by omega)
  obtain ⟨rfl, rfl⟩ : b = b' ∧ off = off' := by simpa using he
  have cl0 := int_cell hcell 0 (by omega)
  have cl1 := int_cell hcell (n - 1) (by omega)
  rw [Nat.add_zero] at cl0
  clear hcell he
  have i0 : (0 : Int) < (n : Int) := by omega
  have i1 : (0 : Int) ≤ (n : Int) - 1 := by omega
  have i2 : (n : Int) - 1 < (n : Int) := by omega
  have i3 : IntKind.i64.wrap ((n : Int) - 1) = (n : Int) - 1 := IntWalk.i64_in _ (by omega)
  have i4 : ((n : Int) - 1).toNat = n - 1 := by omega
  have i5 : 0 < n := by omega
  have i6 : (1 : Int) ≤ (n : Int) := by omega
  have i7 : 1 ≤ n := by omega
  have hg := fun wx => gap_any x (z 0) (z (n - 1)) wx
  obtain ⟨v2, hv2, hv2a, hv2b⟩ := valErr_form (gapv x (z 0) (z (n - 1))) (clss x 2 (fun k => if k = 0 then z 0 else z (n - 1)))
  simp only [hv2] at hg
  have HV2a := Lib.hid hv2a; clear hv2 hv2a hv2b
  generalize he2 : clss x 2 (fun k => if k = 0 then z 0 else z (n - 1)) = e2 at hg HV2a
  have HE2 := Lib.hid he2; clear he2
  have HG := Lib.hid hg; clear hg
  go_wp2_with fail
  go_region_held3 (fun w' => w'.cell? ⟨w.heap.size, 0, none⟩ = some (.int .i64 (x 0)) ∧ w'.cell? ⟨w.heap.size, 1, none⟩ = some (.int .i64 (x 1)) ∧ w'.cell? ⟨w.heap.size, 2, none⟩ = some (.int .i64 (x 2)) ∧ w'.cell? ⟨w.heap.size, 3, none⟩ = some (.int .i64 (x 3)) ∧ w'.cell? ⟨w.heap.size, 4, none⟩ = some (.int .i64 (x 4)) ∧ w'.cell? ⟨w.heap.size, 5, none⟩ = some (.int .i64 (x 5)) ∧ w'.cell? ⟨w.heap.size, 6, none⟩ = some (.int .i64 (x 6)) ∧ w'.cell? ⟨w.heap.size, 7, none⟩ = some (.int .i64 (x 7)) ∧ w'.cell? ⟨w.heap.size, 8, none⟩ = some (.int .i64 (x 8)) ∧ w'.cell? ⟨w.heap.size, 9, none⟩ = some (.int .i64 (x 9)) ∧ w'.cell? ⟨w.heap.size, 10, none⟩ = some (.int .i64 (x 10)) ∧ w'.cell? ⟨w.heap.size, 11, none⟩ = some (.int .i64 (x 11)) ∧ w'.cell? ⟨w.heap.size, 12, none⟩ = some (.int .i64 (x 12)) ∧ w'.cell? ⟨w.heap.size, 13, none⟩ = some (.int .i64 (x 13)) ∧ w'.cell? ⟨w.heap.size, 14, none⟩ = some (.int .i64 (x 14)) ∧ w'.cell? ⟨w.heap.size, 15, none⟩ = some (.int .i64 (x 15)) ∧ w'.cell? ⟨b, off, none⟩ = some (.int .i64 (z 0)) ∧ w'.cell? ⟨b, off + (n - 1), none⟩ = some (.int .i64 (z (n - 1))))
    (first | go_keep | (refine ⟨?_, ?_, ?_, ?_, ?_, ?_, ?_, ?_, ?_, ?_, ?_, ?_, ?_, ?_, ?_, ?_, ?_, ?_⟩ <;> (rw [hb.cell (by simp; first | exact lB | exact hbl')]; simp [*])))
    ((go_at_call 13; refine (HG.out _).mono ?_; rintro e w3 ⟨rfl, hb⟩))
  replace HT2 := Lib.hid ((HT2.out.drew).after hb)
  replace hB : Below w.heap.size w w3 := Below.step hB.drew hb (by have := hB.size; simp; omega)
  clear hb ct0 ct1 ct2 ct3 ct4 ct5 ct6 ct7 ct8 ct9 ct10 ct11 ct12 ct13 ct14 ct15 lB cl0 cl1 i0 i1 i2 i3 i4 i6 i7
  have lB := HT2.out.lt
  have ct0 := tab_cell HT2.out 0 (by decide)
  have ct1 := tab_cell HT2.out 1 (by decide)
  have ct2 := tab_cell HT2.out 2 (by decide)
  have ct3 := tab_cell HT2.out 3 (by decide)
  have ct4 := tab_cell HT2.out 4 (by decide)
  have ct5 := tab_cell HT2.out 5 (by decide)
  have ct6 := tab_cell HT2.out 6 (by decide)
  have ct7 := tab_cell HT2.out 7 (by decide)
  have ct8 := tab_cell HT2.out 8 (by decide)
  have ct9 := tab_cell HT2.out 9 (by decide)
  have ct10 := tab_cell HT2.out 10 (by decide)
  have ct11 := tab_cell HT2.out 11 (by decide)
  have ct12 := tab_cell HT2.out 12 (by decide)
  have ct13 := tab_cell HT2.out 13 (by decide)
  have ct14 := tab_cell HT2.out 14 (by decide)
  have ct15 := tab_cell HT2.out 15 (by decide)
  have hbl2 : b < w3.heap.size := by obtain ⟨b', off', he, h2, -⟩ := (HRow.out.below hB (Nat.le_refl _)) (by omega); simp at he; omega
  have hcl := fun wx hR' => clone_int (some ⟨b, off, none⟩) n c (fun j => .int .i64 (z j)) wx (by unfold maxLen; omega) (by omega) (by simp) hR' (fun _ _ => rfl)
  have HCL := Lib.hid hcl; clear hcl
  go_wp2_with fail
  obtain ⟨i0, hi0, hz0, hz1, hz2⟩ := info_parts info_int
  have hlw : w.heap.size ≤ w3.heap.size := hB.size
  obtain ⟨v3, hv3, hv3a, -⟩ := valErr_form (lst x (snoc z n k) (n + 1)) (clss x (n + 1) (snoc z n k))
  have hls := fun wx g cap h1 h2 h3 => least_any x (some ⟨g, 0, none⟩) (n + 1) cap (snoc z n k) wx h1 h2 h3
  simp only [hv3] at hls
  have HV3a := Lib.hid hv3a; clear hv3 hv3a
  generalize he3 : clss x (n + 1) (snoc z n k) = e3 at hls HV3a
  have HE3 := Lib.hid he3; clear he3
  have HLS := Lib.hid hls; clear hls
  go_region_held3 (fun w' => w'.cell? ⟨w.heap.size, 0, none⟩ = some (.int .i64 (x 0)) ∧ w'.cell? ⟨w.heap.size, 1, none⟩ = some (.int .i64 (x 1)) ∧ w'.cell? ⟨w.heap.size, 2, none⟩ = some (.int .i64 (x 2)) ∧ w'.cell? ⟨w.heap.size, 3, none⟩ = some (.int .i64 (x 3)) ∧ w'.cell? ⟨w.heap.size, 4, none⟩ = some (.int .i64 (x 4)) ∧ w'.cell? ⟨w.heap.size, 5, none⟩ = some (.int .i64 (x 5)) ∧ w'.cell? ⟨w.heap.size, 6, none⟩ = some (.int .i64 (x 6)) ∧ w'.cell? ⟨w.heap.size, 7, none⟩ = some (.int .i64 (x 7)) ∧ w'.cell? ⟨w.heap.size, 8, none⟩ = some (.int .i64 (x 8)) ∧ w'.cell? ⟨w.heap.size, 9, none⟩ = some (.int .i64 (x 9)) ∧ w'.cell? ⟨w.heap.size, 10, none⟩ = some (.int .i64 (x 10)) ∧ w'.cell? ⟨w.heap.size, 11, none⟩ = some (.int .i64 (x 11)) ∧ w'.cell? ⟨w.heap.size, 12, none⟩ = some (.int .i64 (x 12)) ∧ w'.cell? ⟨w.heap.size, 13, none⟩ = some (.int .i64 (x 13)) ∧ w'.cell? ⟨w.heap.size, 14, none⟩ = some (.int .i64 (x 14)) ∧ w'.cell? ⟨w.heap.size, 15, none⟩ = some (.int .i64 (x 15)))
    (first | go_keep | (refine ⟨?_, ?_, ?_, ?_, ?_, ?_, ?_, ?_, ?_, ?_, ?_, ?_, ?_, ?_, ?_, ?_⟩ <;> (rw [hb4.cell (by simp; omega)]; simp [*])) | (refine ⟨?_, ?_, ?_, ?_, ?_, ?_, ?_, ?_, ?_, ?_, ?_, ?_, ?_, ?_, ?_, ?_⟩ <;> (rw [hg5.cell_far _ (by simp; omega) (by simp [Value.ownBlock]; omega)]; simp [*])) | (refine ⟨?_, ?_, ?_, ?_, ?_, ?_, ?_, ?_, ?_, ?_, ?_, ?_, ?_, ?_, ?_, ?_⟩ <;> (rw [hb6.cell (by simp; omega)]; simp [*])))
    (first
      | (go_at_call 14; refine (HCL.out _ (HRow.out.below (B := w.heap.size) (by go_grown) (Nat.le_refl _))).mono ?_; rintro e w4 ⟨v, rfl, hown, hb4, -⟩; obtain ⟨g, cap, rfl, hg1, hg2⟩ := hown.form (by omega); have hg1' : w3.heap.size ≤ g := Nat.le_trans (by simp) hg1; have hz4 : w3.heap.size ≤ w4.heap.size := Nat.le_trans (by simp) hb4.size; (first | (have hq := Blk.after (Blk.drew (Blk.new w3 _)) hb4) | skip); have hB4 : Below w.heap.size w w4 := Below.step (by go_grown) hb4 (by go_size))
      | (refine step_append_lies _ (by rfl) _ _ _ (by rfl) _ 3 i0 _ 1 8 Try.underlying25 hi0 hz0 hz1 hz2 rfl (by omega) _ n _ (by rfl) (hown.alloc _) ⟨w4.heap.size, 0, none⟩ 1 1 [.int .i64 k] (by rfl) (by rfl) (World.news_of_block (cs := #[.int .i64 k]) (t := 3) (fr := (0, 0)) (heap_alloc_new w4 _)) (by simp [Value.oneCell']) (by omega) (by unfold maxLen; omega) (by omega) (Nat.le_trans hb4.size (by simp)) (w4.heap.size + 1) (by simp) ?_; intro g5 cap5 w5 hown5 hg5 hat5 hlt5; have hB5 : Below w.heap.size w w5 := Below.grown (by go_grown) hg5 (by simp; omega) (by intro q hq1; simp [Value.ownBlock] at hq1; omega); have hz5 := hB5.size; have hz6 : w.heap.size < w5.heap.size := Nat.lt_of_lt_of_le lB (Nat.le_trans hz4 (Nat.le_trans (by simp) hg5.size)))
      | (refine step_append_lies _ (by rfl) _ _ _ (by rfl) _ 3 i0 _ 1 8 Try.underlying25 hi0 hz0 hz1 hz2 rfl (by omega) _ n _ (by rfl) hown ⟨w3.heap.size, 0, none⟩ 1 1 [.int .i64 k] (by rfl) (by rfl) (World.news_of_block (cs := #[.int .i64 k]) (t := 3) (fr := (0, 0)) hq) (by simp [Value.oneCell']) (by omega) (by unfold maxLen; omega) (by omega) hb4.size w4.heap.size rfl ?_; intro g5 cap5 w5 hown5 hg5 hat5 hlt5; have hB5 : Below w.heap.size w w5 := Below.grown hB4 hg5 hB4.size (by intro q hq1; simp [Value.ownBlock] at hq1; omega); have hz5 := hB5.size; have hz6 : w.heap.size < w5.heap.size := Nat.lt_of_lt_of_le lB (Nat.le_trans hz4 hg5.size))
      | (go_at_call 12; refine (HLS.out _ _ _ (own_ints hown5 (snoc z n k) (snoc_row z n k)).1 (own_ints hown5 (snoc z n k) (snoc_row z n k)).2.1 (own_ints hown5 (snoc z n k) (snoc_row z n k)).2.2).mono ?_; rintro e w6 ⟨rfl, hb6⟩; have hB6 : Below w.heap.size w w6 := Below.step hB5 hb6 hz5)
      | fail)
  all_goals
    have fin1 : e1 ≠ 0 → v1 = 0 := fun h => HV1b.out (by rw [HE1.out]; exact h)
    have fin2 : e1 = 0 → e2 = 0 ∧ v2 ≤ v1 ∧ 0 ≤ v1 ∧ v1 ≤ 36000 ∧ (e3 = 0 → v1 + 30 ≤ v3) := by
      intro h
      subst h
      have h2 : e2 = 0 := by
        rw [← HE2.out]
        obtain ⟨q1, q2, q3⟩ := clss_zero HE1.out
        refine clss_ok q1 (by decide) (fun j hj => ?_)
        obtain rfl | rfl : j = 0 ∨ j = 1 := by omega
        · exact q3 0 (by omega)
        · exact q3 (n - 1) (by omega)
      have h1 := HV1a.out HE1.out
      have h3 := HV2a.out h2
      have h4 := lst_le HE1.out n (Nat.le_refl _)
      have h5 := gap_lst HE1.out (n - 2) (by omega)
      rw [show n - 2 + 1 = n - 1 by omega, show n - 2 + 2 = n by omega] at h5
      refine ⟨h2, by omega, by omega, by omega, fun h6 => ?_⟩
      have h7 := HV3a.out h6
      have h8 := lst_snoc (x := x) (z := z) (n := n) (k := k) (by omega) (HE3.out.trans h6)
      omega
    clear HV1 HV1a HV1b HV2a HV3a HE1 HE2 HE3 HG HCL HLS HRow HT2
    have F1 := Lib.hid fin1; have F2 := Lib.hid fin2; clear fin1 fin2
    by_cases h1 : e1 = 0
    · subst h1
      obtain ⟨rfl, g1, g2, g3, g4⟩ := F2.out rfl
      by_cases h3 : e3 = 0
      · subst h3
        have g5 := g4 rfl
        clear g4
        go_wp2_with fail
        go_returns
        exact ⟨rfl, hB6⟩
      · have h3' : (e3 != 0) = true := by simpa using h3
        have h3'' : (e3 == 0) = false := by simpa using h3
        have H3 := Lib.hid h3; clear h3 g4
        go_wp2_with fail
        go_returns
        exact ⟨rfl, hB6⟩
    · obtain rfl := F1.out h1
      have h1' : (e1 != 0) = true := by simpa using h1
      have H1 := Lib.hid h1; clear h1
      go_wp2_with fail
      go_returns
      exact ⟨rfl, hB6⟩

end Go.Proofs.Ytfmodgffhbljoaa
