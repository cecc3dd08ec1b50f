/- What the package-level variables of packages phrase and strconv hold, as plain values. -/
import Derived.Test.YtnechdhngpajbaaDoorX1T
import Derived.Test.YtnechdhngpajbaaDoorPJ
import Derived.Lib.LaidTab
import Derived.Test.YtnechdhngpajbaaDoorPi23
import Derived.Test.YtnechdhngpajbaaDoorRows
import Derived.LaidMore
import Derived.OpenShut
set_option linter.unusedVariables false
set_option linter.unusedSimpArgs false
namespace Go.Proofs.YtnechdhngpajbaaDoor
open Go.ChangeShapes Go.WideShapes Go.ChangeAt Go.RowKit

def laidR : List (String × DataW Unit) := [("math/bits.deBruijn32tab", Rows.laid_math_bits_deBruijn32tab), ("math/bits.deBruijn64tab", Rows.laid_math_bits_deBruijn64tab), ("internal/strconv.uint64pow10", Rows.laid_internal_strconv_uint64pow10), ("unicode/utf8.acceptRanges", Rows.laid_unicode_utf8_acceptRanges), ("strconv.ErrRange", Rows.laid_strconv_ErrRange), ("strconv.ErrSyntax", Rows.laid_strconv_ErrSyntax), ("skyway/phrase.words", Rows.laid_skyway_phrase_words), ("skyway/phrase.most", Rows.laid_skyway_phrase_most), ("unicode/utf8.first", Rows.laid_unicode_utf8_first)]
theorem gPow : Tryd.prog.globalNamed "internal/strconv.uint64pow10" = some 5 := by kernel_rfl
theorem gRange : Tryd.prog.globalNamed "strconv.ErrRange" = some 4 := by kernel_rfl
theorem gSyntax : Tryd.prog.globalNamed "strconv.ErrSyntax" = some 3 := by kernel_rfl
theorem tPow : (Tryd.prog.globals[5]?).map (·.type) = some 109 := by kernel_rfl
theorem tErr : (Tryd.prog.globals[4]?).map (·.type) = some 77 := by kernel_rfl
theorem tErr' : (Tryd.prog.globals[3]?).map (·.type) = some 77 := by kernel_rfl
theorem trod_ifc {H : Type} {enc : TypeId × Value → H} {P : Program} {W : World} {base fuel : Nat} {sp : Nat → Bool} {held : Bool} {t : TypeId} {ms} {cs : List Value} {nm : String} {d : DataW H} {p : List MemPlace} (hu : P.underlying t = some (.interface ms)) (h : DataW.trod enc P W base sp held fuel t cs = some (.iface nm d, p)) : ∃ u v, cs = [.iface u v] := by
  cases fuel with
  | zero => simp [DataW.trod] at h
  | succ m =>
    unfold DataW.trod at h
    rw [hu] at h
    split at h <;> simp_all
theorem gWords : Tryd.prog.globalNamed "skyway/phrase.words" = some 1 := by kernel_rfl
theorem gMost : Tryd.prog.globalNamed "skyway/phrase.most" = some 0 := by kernel_rfl
theorem tWords : (Tryd.prog.globals[1]?).map (·.type) = some 72 := by kernel_rfl
theorem tMost : (Tryd.prog.globals[0]?).map (·.type) = some 71 := by kernel_rfl
theorem c_str : Tryd.prog.cellsOf 9 = 1 := by kernel_rfl
theorem c_int : Tryd.prog.cellsOf 3 = 1 := by kernel_rfl
/- an array of texts, of numbers, by its datum -/
theorem arr_str {H : Type} {enc : TypeId × Value → H} {P : Program} {W : World} {base fuel n : Nat} {sp : Nat → Bool} {held : Bool} {t e : TypeId} {cs : List Value} {l : List (List UInt8)} {p : List MemPlace} (hu : P.underlying t = some (.array n e)) (he : P.underlying e = some .string) (hc : P.cellsOf e = 1) (h : DataW.trod enc P W base sp held fuel t cs = some (.agg (l.map fun b => .lit (.string b)), p)) : ∀ (k : Nat) (b : List UInt8), l[k]? = some b → cs[k]? = some (.string ⟨b.toArray⟩) := by
  obtain ⟨xs, m, -, hx, -, hn, hel⟩ := DataW.trod_array hu h
  intro k b hk
  simp only [Prod.mk.injEq, DataW.agg.injEq] at hx
  have hxk : (xs.map (·.1))[k]? = some (.lit (.string b)) := by rw [← hx.1, List.getElem?_map, hk]; rfl
  rw [List.getElem?_map] at hxk
  obtain ⟨x, hx1, hx2⟩ := Option.map_eq_some_iff.1 hxk
  have hkn : k < n := by
    rw [← hn]
    rcases Nat.lt_or_ge k xs.length with h | h
    · exact h
    · rw [List.getElem?_eq_none h] at hx1; cases hx1
  have h1 := hel k hkn
  rw [hx1] at h1
  obtain ⟨s, e1, e2, -⟩ := DataW.trod_string he h1
  rw [e2] at hx2
  have hb : s.data.toList = b := by simpa using hx2
  rw [hc, Nat.mul_one] at e1
  have : cs[k]? = some (.string s) := by
    have := congrArg (fun q => q[0]?) e1
    simpa [List.getElem?_take, List.getElem?_drop] using this
  rw [this, ← hb]
theorem arr_int {H : Type} {enc : TypeId × Value → H} {P : Program} {W : World} {base fuel n : Nat} {sp : Nat → Bool} {held : Bool} {t e : TypeId} {cs : List Value} {l : List Int} {p : List MemPlace} (hu : P.underlying t = some (.array n e)) (he : P.underlying e = some (.int .i64)) (hc : P.cellsOf e = 1) (h : DataW.trod enc P W base sp held fuel t cs = some (.agg (l.map fun b => .lit (.int .i64 b)), p)) : ∀ (k : Nat) (b : Int), l[k]? = some b → cs[k]? = some (.int .i64 b) := by
  obtain ⟨xs, m, -, hx, -, hn, hel⟩ := DataW.trod_array hu h
  intro k b hk
  simp only [Prod.mk.injEq, DataW.agg.injEq] at hx
  have hxk : (xs.map (·.1))[k]? = some (.lit (.int .i64 b)) := by rw [← hx.1, List.getElem?_map, hk]; rfl
  rw [List.getElem?_map] at hxk
  obtain ⟨x, hx1, hx2⟩ := Option.map_eq_some_iff.1 hxk
  have hkn : k < n := by
    rw [← hn]
    rcases Nat.lt_or_ge k xs.length with h | h
    · exact h
    · rw [List.getElem?_eq_none h] at hx1; cases hx1
  have h1 := hel k hkn
  rw [hx1] at h1
  obtain ⟨s, e1, e2, -⟩ := DataW.trod_int he h1
  rw [e2] at hx2
  have hb : s = b := by simpa using hx2
  rw [hc, Nat.mul_one] at e1
  have : cs[k]? = some (.int .i64 s) := by
    have := congrArg (fun q => q[0]?) e1
    simpa [List.getElem?_take, List.getElem?_drop] using this
  rw [this, hb]
def wordsB : List (List UInt8) := [[72, 69, 73, 71, 72, 84], [72, 69, 65, 68, 73, 78, 71], [83, 80, 69, 69, 68], [68, 73, 82, 69, 67, 84], [72, 79, 76, 68], [67, 79, 78, 84, 65, 67, 84], [76, 65, 78, 68]]
def mostI : List Int := [60000, 4095, 400]
def powL : List Int := [1, 10, 100, 1000, 10000, 100000, 1000000, 10000000, 100000000, 1000000000, 10000000000, 100000000000, 1000000000000, 10000000000000, 100000000000000, 1000000000000000, 10000000000000000, 100000000000000000, 1000000000000000000, 10000000000000000000]
structure Held9 (W : World) : Prop where
  words : ∀ (k : Nat) (b : List UInt8), wordsB[k]? = some b → W.cell? ⟨1, k, none⟩ = some (.string ⟨b.toArray⟩)
  most : ∀ (k : Nat) (b : Int), mostI[k]? = some b → W.cell? ⟨0, k, none⟩ = some (.int .i64 b)
  range : ∃ u v, W.cell? ⟨4, 0, none⟩ = some (.iface u v)
  syn : ∃ u v, W.cell? ⟨3, 0, none⟩ = some (.iface u v)
  pow : W.var? Tryd.prog "internal/strconv.uint64pow10" = some (powL.map fun z => Value.int .u64 z).toArray
theorem of_laid {W : World} (h : laidMetH Tryd.prog laidR W) : Held9 W := by
  rw [MakeChecks.laidMetH_plain _ _ _ (by kernel_rfl)] at h
  obtain ⟨ps, ⟨-, -, -, -, -, -, -, -, -, -, ⟨-, -, -, -, -, -, -, -, -, -, ⟨g2, t2, cs2, f2, p2, q2, hg2, ht2, hv2, hd2, ⟨-, -, -, -, -, -, -, -, -, -, ⟨g4, t4, cs4, f4, p4, q4, hg4, ht4, hv4, hd4, ⟨g5, t5, cs5, f5, p5, q5, hg5, ht5, hv5, hd5, ⟨g0, t0, cs0, f0, p0, q0, hg0, ht0, hv0, hd0, ⟨g1, t1, cs1, f1, p1, q1, hg1, ht1, hv1, hd1, _, _⟩, _⟩, _⟩, _⟩, _⟩, _⟩, _⟩, _⟩, _, _⟩ := h
  obtain rfl := Option.some.inj (gWords.symm.trans hg0)
  obtain rfl := Option.some.inj (gMost.symm.trans hg1)
  obtain rfl := Option.some.inj (gPow.symm.trans hg2)
  obtain rfl := Option.some.inj (gRange.symm.trans hg4)
  obtain rfl := Option.some.inj (gSyntax.symm.trans hg5)
  obtain rfl := Option.some.inj (tWords.symm.trans ht0)
  obtain rfl := Option.some.inj (tMost.symm.trans ht1)
  obtain rfl := Option.some.inj (tPow.symm.trans ht2)
  obtain rfl := Option.some.inj (tErr.symm.trans ht4)
  obtain rfl := Option.some.inj (tErr'.symm.trans ht5)
  have a0 := arr_str (l := wordsB) Tryd.underlying72 Tryd.underlying9 c_str hd0
  have a1 := arr_int (l := mostI) Tryd.underlying71 Tryd.underlying3 c_int hd1
  have a2 := Lib.cells_of_tab (k := .u64) (zs := powL) Tryd.underlying109 Tryd.underlying96 (by kernel_rfl) (by kernel_rfl) hd2
  obtain ⟨u4, v4, e4⟩ := trod_ifc Tryd.underlying77 hd4
  obtain ⟨u5, v5, e5⟩ := trod_ifc Tryd.underlying77 hd5
  refine ⟨fun k b hk => ?_, fun k b hk => ?_, ⟨u4, v4, ?_⟩, ⟨u5, v5, ?_⟩, ?_⟩
  · rw [World.var?_cell hg0 hv0 k, ← Array.getElem?_toList]; exact a0 k b hk
  · rw [World.var?_cell hg1 hv1 k, ← Array.getElem?_toList]; exact a1 k b hk
  · rw [World.var?_cell hg4 hv4 0, ← Array.getElem?_toList, e4]; rfl
  · rw [World.var?_cell hg5 hv5 0, ← Array.getElem?_toList, e5]; rfl
  · rw [hv2]; congr 1; rw [← a2]
theorem rels_strs {c : Cx} : ∀ l : List (List UInt8), Rels c (l.map fun b => strA ⟨b.toArray⟩) (l.map fun b => Value.string ⟨b.toArray⟩)
  | [] => .nil
  | b :: l => .cons (.sc _ rfl) (rels_strs l)
theorem rels_ints {c : Cx} : ∀ l : List Int, Rels c (l.map intA) (l.map fun b => Value.int .i64 b)
  | [] => .nil
  | b :: l => .cons (.sc _ rfl) (rels_ints l)
theorem rels_u64 {c : Cx} : ∀ l : List Int, Rels c (l.map fun z => AV.sc (.int .u64 z)) (l.map fun b => Value.int .u64 b)
  | [] => .nil
  | b :: l => .cons (.sc _ rfl) (rels_u64 l)
theorem glob_ok {W : World} (h : laidMetH Tryd.prog laidR W) : GlobOk glb (cx0 W) := by
  obtain ⟨h1, h2, ⟨u4, v4, h4⟩, ⟨u3, v3, h3⟩, h5⟩ := of_laid h
  have w0 := h1 0 _ rfl
  have m0 := h2 0 _ rfl
  intro g cs hg
  have hw : VRel (cx0 W) (.ept (wordsB.map fun b => strA ⟨b.toArray⟩) 0) (.pointer (some ⟨1, 0, none⟩)) := .ept (c := cx0 W) (b := 1) (o := 0) (vs := wordsB.map fun b => Value.string ⟨b.toArray⟩) (cx0_stable (by simpa using World.block_lt_of_cell? W _ w0)) (rels_strs _) (fun k v hk => by
    rw [List.getElem?_map] at hk
    obtain ⟨b, hb, rfl⟩ := Option.map_eq_some_iff.1 hk
    rw [Nat.zero_add]; exact h1 k b hb) 0
  have hm : VRel (cx0 W) (.ept (mostI.map intA) 0) (.pointer (some ⟨0, 0, none⟩)) := .ept (c := cx0 W) (b := 0) (o := 0) (vs := mostI.map fun b => Value.int .i64 b) (cx0_stable (by simpa using World.block_lt_of_cell? W _ m0)) (rels_ints _) (fun k v hk => by
    rw [List.getElem?_map] at hk
    obtain ⟨b, hb, rfl⟩ := Option.map_eq_some_iff.1 hk
    rw [Nat.zero_add]; exact h2 k b hb) 0
  have hr : VRel (cx0 W) (.ept [.ifc false] 0) (.pointer (some ⟨4, 0, none⟩)) := .ept (c := cx0 W) (b := 4) (o := 0) (vs := [.iface u4 v4]) (cx0_stable (by simpa using World.block_lt_of_cell? W _ h4)) (Rels.one (.ifcS _ _)) (fun k v hk => by
    match k, hk with
    | 0, hk => cases hk; exact h4) 0
  have hs : VRel (cx0 W) (.ept [.ifc false] 0) (.pointer (some ⟨3, 0, none⟩)) := .ept (c := cx0 W) (b := 3) (o := 0) (vs := [.iface u3 v3]) (cx0_stable (by simpa using World.block_lt_of_cell? W _ h3)) (Rels.one (.ifcS _ _)) (fun k v hk => by
    match k, hk with
    | 0, hk => cases hk; exact h3) 0
  have hp5 : ∀ (k : Nat) (b : Int), powL[k]? = some b → W.cell? ⟨5, k, none⟩ = some (.int .u64 b) := fun k b hk => by
    rw [World.var?_cell gPow h5 k]; simp [hk]
  have p0 := hp5 0 _ rfl
  have hst : (cx0 W).stable 5 := cx0_stable (by simpa using World.block_lt_of_cell? W _ p0)
  have hp : VRel (cx0 W) (.ept (powL.map fun z => .sc (.int .u64 z)) 0) (.pointer (some ⟨5, 0, none⟩)) := .ept (c := cx0 W) (b := 5) (o := 0) (vs := powL.map fun b => Value.int .u64 b) hst (rels_u64 _) (fun k v hk => by
    rw [List.getElem?_map] at hk
    obtain ⟨b, hb, rfl⟩ := Option.map_eq_some_iff.1 hk
    rw [Nat.zero_add]; exact hp5 k b hb) 0
  have hz : Sized (cx0 W) 5 20 := ⟨hst, by
    simp only [World.var?, gPow, Option.bind_some] at h5
    split at h5
    · rename_i cs t fz hb
      cases h5
      exact ⟨_, t, fz, hb, by rfl⟩
    · cases h5⟩
  unfold glb at hg
  split at hg
  · cases hg; exact ⟨rfl, hm, fun q => by cases q⟩
  · cases hg; exact ⟨rfl, hw, fun q => by cases q⟩
  · cases hg; exact ⟨rfl, hs, fun q => by cases q⟩
  · cases hg; exact ⟨rfl, hr, fun q => by cases q⟩
  · cases hg; exact ⟨rfl, hp, fun _ => hz⟩
  · cases hg
end Go.Proofs.YtnechdhngpajbaaDoor
