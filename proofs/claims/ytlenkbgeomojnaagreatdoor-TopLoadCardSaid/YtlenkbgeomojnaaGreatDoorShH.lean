/- The fact skyway/skywaytop.shownFact. -/
import Derived.Test.YtlenkbgeomojnaaGreatDoorShC
import Derived.Test.YtlenkbgeomojnaaGreatDoorShD
set_option linter.unusedVariables false
set_option maxRecDepth 100000
namespace Go.Proofs.YtlenkbgeomojnaaGreatDoor
def spH:CallF:=fun f args m nx=>
 bif Nat.beq f 19 then (bif beqAs args effA then some (effV,m,nx) else none)
 else bif Nat.beq f 106 then (bif beqAs args candA then some (candV,m,nx) else none)
 else bif Nat.beq f 8 then (bif beqAs args shiftA then some (shiftV,m,nx) else none) else spT f args m nx
theorem spH_ok:CallOk Tryz.prog KF.gl spH:=by
 intro f args m nx v m' nx' h
 unfold spH at h
 cases h1:Nat.beq f 19 with
 |true=>
  rw [h1,cond_true] at h
  obtain ⟨ha,he⟩:=bif_then h
  cases he
  rw [Nat.eq_of_beq_eq_true h1,beqAs_eq _ _ ha]
  exact callPost_of_says (K:=KS) (says_of_answers (K:=KS) fol spT_ok ev_eff)
 |false=>
  rw [h1,cond_false] at h
  cases h2:Nat.beq f 106 with
  |true=>
   rw [h2,cond_true] at h
   obtain ⟨ha,he⟩:=bif_then h
   cases he
   rw [Nat.eq_of_beq_eq_true h2,beqAs_eq _ _ ha]
   exact callPost_of_says (K:=KS) (says_of_answers (K:=KS) fol spT_ok ev_cand)
  |false=>
   rw [h2,cond_false] at h
   cases h3:Nat.beq f 8 with
   |true=>
    rw [h3,cond_true] at h
    obtain ⟨ha,he⟩:=bif_then h
    cases he
    rw [Nat.eq_of_beq_eq_true h3,beqAs_eq _ _ ha]
    exact callPost_of_says (K:=KS) (says_of_answers (K:=KS) fol spT_ok ev_shift)
   |false=>
    rw [h3,cond_false] at h
    exact spT_ok _ _ _ _ _ _ _ h
theorem ev_shown:evalsToY Tryz.prog KS spH 300 4=some true:=by decide+kernel
theorem sg4 {n:Nat} {t:ρ4} (h:g4 n=some t):Says Tryz.prog KK.gl 4 [] (boolA t):=by
 cases h
 exact says_of_evalsY (K:=KS) fol spH_ok (k:=300) ev_shown
end Go.Proofs.YtlenkbgeomojnaaGreatDoor
