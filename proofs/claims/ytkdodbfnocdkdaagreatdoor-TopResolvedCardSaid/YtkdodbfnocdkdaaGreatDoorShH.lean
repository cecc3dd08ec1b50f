/- A part. -/
import Derived.Test.YtkdodbfnocdkdaaGreatDoorShC
import Derived.Test.YtkdodbfnocdkdaaGreatDoorShD
set_option linter.unusedVariables false
set_option maxRecDepth 100000
namespace Go.Proofs.YtkdodbfnocdkdaaGreatDoor
def spH:Fg:=fun f args m nx=>
 bif Nat.beq f 11 then (bif Ng args Am6 then some (Alg,m,nx) else none)
 else bif Nat.beq f 44 then (bif Ng args Af2 then some (Agf,m,nx) else none)
 else bif Nat.beq f 35 then (bif Ng args rT then some (vB,m,nx) else none) else spT f args m nx
theorem Ah1:Gj Tryz.prog KF.gl spH:=by
 intro f args m nx v m' nx' h
 unfold spH at h
 cases h1:Nat.beq f 11 with
 |true=>
  rw [h1,cond_true] at h
  obtain ⟨ha,he⟩:=Kb h
  cases he
  rw [Nat.eq_of_beq_eq_true h1,Jm _ _ ha]
  exact Ga (K:=KS) (I7 (K:=KS) Re Y0 Ah2)
 |false=>
  rw [h1,cond_false] at h
  cases h2:Nat.beq f 44 with
  |true=>
   rw [h2,cond_true] at h
   obtain ⟨ha,he⟩:=Kb h
   cases he
   rw [Nat.eq_of_beq_eq_true h2,Jm _ _ ha]
   exact Ga (K:=KS) (I7 (K:=KS) Re Y0 Acy)
  |false=>
   rw [h2,cond_false] at h
   cases h3:Nat.beq f 35 with
   |true=>
    rw [h3,cond_true] at h
    obtain ⟨ha,he⟩:=Kb h
    cases he
    rw [Nat.eq_of_beq_eq_true h3,Jm _ _ ha]
    exact Ga (K:=KS) (I7 (K:=KS) Re Y0 qW)
   |false=>
    rw [h3,cond_false] at h
    exact Y0 _ _ _ _ _ _ _ h
theorem yJ:Uk Tryz.prog KS spH 300 4=some true:=by decide+kernel
theorem sg4 {n:Nat} {t:ρ4} (h:g4 n=some t):Ci Tryz.prog KK.gl 4 [] (Ai t):=by
 cases h
 exact V2 (K:=KS) Re Ah1 (k:=300) yJ
end Go.Proofs.YtkdodbfnocdkdaaGreatDoor
