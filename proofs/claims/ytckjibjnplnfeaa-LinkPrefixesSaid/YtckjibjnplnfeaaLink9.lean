/- What the second closure of LinkPrefixes does. -/
import Derived.Test.YtckjibjnplnfeaaLink8
set_option linter.unusedVariables false
set_option linter.unusedSimpArgs false
namespace Go.Proofs.Ytckjibjnplnfeaa
open Go.RowKit
attribute [local go_sem ↓] Go.wp_at_zero Go.wp_at_succ

def Hr (w : World) (bs : Nat) (B' : Int) (W' : List ByteArray) (e : Ending) (w' : World) : Prop :=
  e = .returned (.bool true) ∧ ∃ sa' sc', Blk w' bs (.cells #[.int .i64 B', .slice sa' W'.length sc'] 26) ∧ strE.Slc w' sa' sc' W' ∧ Keeps (fun k => k = bs) w w' ∧ Out W'.length sa' (fun k => k < w.heap.size)
set_option maxRecDepth 100000 in
set_option maxHeartbeats 1000000 in
theorem hr_any (bs : Nat) (B x : Int) (W : List ByteArray) (sa : Option Addr) (sc : Nat) (w : World) (hbs : Blk w bs (.cells #[.int .i64 B, .slice sa W.length sc] 26)) (hW : strE.Slc w sa sc W) (hok : StrsOk W) (hE : heardE B W x = 0) :
    Calls Try.prog 11 #[.int .i64 x, .pointer (some ⟨bs, 0, none⟩)] w (Hr w bs (heardB B W x) (heardW B W x)) := by
  obtain ⟨lb, x0, x1, f0, f1⟩ := hbs.two
  have HBs := Lib.hid hbs; have HW := Lib.hid hW; have HOk := Lib.hid hok; have HE := Lib.hid hE
  clear hbs hW hok hE
  go_enter Try.func11, Try.ntmps11
  go_wp2_with fail
  refine (heard_any B sa sc W x _ HW.out HOk.out).mono ?_
  rintro e w1 ⟨v, rfl, ho, hb⟩
  rw [HE.out]
  generalize hW' : heardW B W x = W' at ho ⊢
  generalize hB' : heardB B W x = B'
  have HW' := Lib.hid hW'; have HB' := Lib.hid hB'; clear hW' hB'
  obtain ⟨a2, c2, hv, -⟩ := ho.slc
  subst hv
  have hz := hb.size
  have HB1 := Lib.hid (HBs.out.after hb)
  have hK1 : Keeps (fun k => k = bs) w w1 := Keeps.of_below hb
  have HO := Lib.hid ho
  clear hb ho lb x0 x1 f0 f1
  obtain ⟨lb, x0, x1, f0, f1⟩ := HB1.out.two
  go_wp2_with fail
  have HB2 := Lib.hid (((HB1.out.set 0 (.int .i64 B')).set 1 (.slice a2 W'.length c2)).alloc (.cells #[.int .i64 B', .slice a2 W'.length c2] 26))
  have hK2 := ((hK1.setCell (p := ⟨bs, 0, none⟩) rfl (.int .i64 B')).setCell (p := ⟨bs, 1, none⟩) rfl (.slice a2 W'.length c2)).alloc (.cells #[.int .i64 B', .slice a2 W'.length c2] 26)
  have HO2 := Lib.hid ((show strE.Own _ w.heap.size 9 (.slice a2 W'.length c2) W' from ownsRow_setCell_below (ownsRow_setCell_below HO.out (a := ⟨bs, 0, none⟩) HBs.out.lt (.int .i64 B')) (a := ⟨bs, 1, none⟩) HBs.out.lt (.slice a2 W'.length c2)).after (Below.alloc (Below.refl _ _) (Nat.le_refl _) (.cells #[.int .i64 B', .slice a2 W'.length c2] 26)))
  go_returns
  obtain ⟨a9, c9, h9, h10⟩ := HO2.out.slc
  simp only [Value.slice.injEq] at h9
  obtain ⟨rfl, -, rfl⟩ := h9
  rw [HW'.out, HB'.out]
  refine ⟨rfl, a2, c2, HB2.out, h10, hK2, fun hn y hy hlt => ?_⟩
  have := (HO.out.lt y.block (by rw [hy]; rfl)).1
  omega

end Go.Proofs.Ytckjibjnplnfeaa
