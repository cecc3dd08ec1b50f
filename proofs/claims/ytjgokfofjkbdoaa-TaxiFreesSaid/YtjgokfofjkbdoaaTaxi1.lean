/- taxi.Waiting, taxi.Most: what they answer. -/
import Derived.Test.YtjgokfofjkbdoaaG1
set_option linter.unusedVariables false
set_option linter.unusedSimpArgs false
namespace Go.Proofs.Ytjgokfofjkbdoaa

structure TMove where
  call : ByteArray
  push : Int
  hold : Int
  leave : Int
def moveE : En TMove where
  size := 4
  enc m := [strA m.call, intA m.push, intA m.hold, intA m.leave]
  len _ := rfl
  pos := by decide
  cell _ := rfl
  cln _ := rfl
  nrm _ := rfl
theorem moveE_enc (m : TMove) : moveE.enc m = [strA m.call, intA m.push, intA m.hold, intA m.leave] := rfl
def waits (t : Int) (m : TMove) : Bool := decide (m.hold ≤ t) && decide (t < m.leave)
def waitN (l : List TMove) (t : Int) : Nat := l.countP (waits t)
theorem waitN_take (l : List TMove) (t : Int) (i : Nat) (h : i < l.length) : waitN (l.take (i + 1)) t = waitN (l.take i) t + (if waits t l[i] then 1 else 0) := by
  unfold waitN
  rw [List.take_succ_eq_append_getElem h, List.countP_append]
  simp [List.countP_cons]
theorem waitN_le (l : List TMove) (t : Int) (i : Nat) : waitN (l.take i) t ≤ i := by unfold waitN; have := List.countP_le_length (p := waits t) (l := l.take i); simp at this; omega
theorem waiting_says (l : List TMove) (t : Int) (hl : l.length ≤ 9223372036854775807) : Says Try.prog KK.gl 9 [lstA moveE l, intA t] (intA (waitN l t)) := by
  refine says_of_own (by simp [cleans, clean, encs_clean]) rfl (F9_own _ _ _ ?_)
  unfold F9
  simp only [lenS_lst, opP_some, ex_i64_sc]
  refine L9_0 _ (σ := Nat) (fun i => i ≤ l.length) (fun _ => t) (fun _ => 0) (fun i => waitN (l.take i) t) (fun _ => lstA moveE l) (fun _ => l.length) (fun i => i) (fun _ => []) (fun i => l.length - i) ?_ 0 (Nat.zero_le _) (weak_of rfl ?_)
  · intro i hi
    unfold B9_0
    refine cond_of (fun h => ?_) (fun h => ?_)
    · have h : i < l.length := by simpa using h
      have hw := waitN_take l t i h
      have hle := waitN_le l t i
      have e1 : IntKind.wrap .i64 ((i : Int) + 1) = ((i + 1 : Nat) : Int) := wrap64 (by omega) (by omega)
      have e2 : IntKind.wrap .i64 ((waitN (l.take i) t : Int) + 1) = ((waitN (l.take i) t + 1 : Nat) : Int) := wrap64 (by omega) (by omega)
      have hx : idxS 4 (lstA moveE l) (intA i) = some (.ept (moveE.enc l[i]) 0, []) := idxS_lst (E := moveE) rfl l false i h
      simp only [hx, opP_some, ldA_el (E := moveE) rfl, moveE_enc, exA4_agg, exStr_sc, ex_i64_sc, e1, e2]
      refine cond_of (fun h1 => cond_of (fun h2 => ?_) (fun h2 => ?_)) (fun h1 => ?_)
      · refine ⟨i + 1, h, by omega, weak_of rfl ?_⟩
        have : waits t l[i] = true := by simp at h1 h2; simp [waits, h1, h2]
        rw [hw, this]
        exact okE_cons rfl rfl (okE_cons rfl rfl (okE_cons rfl rfl (okE_cons rfl (lst_clean _) (okE_cons rfl rfl (okE_cons rfl rfl trivial)))))
      · refine ⟨i + 1, h, by omega, weak_of rfl ?_⟩
        have : waits t l[i] = false := by simp at h1 h2; simp [waits, h1, h2]
        rw [hw, this]
        exact okE_cons rfl rfl (okE_cons rfl rfl (okE_cons rfl rfl (okE_cons rfl (lst_clean _) (okE_cons rfl rfl (okE_cons rfl rfl trivial)))))
      · refine ⟨i + 1, h, by omega, weak_of rfl ?_⟩
        have : waits t l[i] = false := by simp at h1; simp [waits]; omega
        rw [hw, this]
        exact okE_cons rfl rfl (okE_cons rfl rfl (okE_cons rfl rfl (okE_cons rfl (lst_clean _) (okE_cons rfl rfl (okE_cons rfl rfl trivial)))))
    · have h : i = l.length := by simp at h; omega
      subst h
      rw [List.take_length]
      rfl
  · exact okE_cons rfl rfl (okE_cons rfl rfl (okE_cons rfl rfl (okE_cons rfl (lst_clean _) (okE_cons rfl rfl (okE_cons rfl rfl trivial)))))
end Go.Proofs.Ytjgokfofjkbdoaa
