/- A part. -/
import Derived.Test.YtmechmjjcgdpdaaGreatDoorShC
import Derived.Test.YtmechmjjcgdpdaaGreatDoorShD
set_option linter.unusedVariables false
set_option maxRecDepth 100000
namespace Go.Proofs.YtmechmjjcgdpdaaGreatDoor
def spH:Ee:=fun f args m nx=>
 bif Nat.beq f 24 then (bif L6 args Am0 then some (Alm,m,nx) else none)
 else bif Nat.beq f 115 then (bif L6 args Aht then some (Ah4,m,nx) else none)
 else bif Nat.beq f 36 then (bif L6 args xH then some (Aa2,m,nx) else none) else spT f args m nx
theorem Akq:E7 Tryz.prog KF.gl spH:=by
 intro f args m nx v m' nx' h
 unfold spH at h
 cases h1:Nat.beq f 24 with
 |true=>
  rw [h1,cond_true] at h
  obtain ⟨ha,he⟩:=Je h
  cases he
  rw [Nat.eq_of_beq_eq_true h1,Io _ _ ha]
  exact Ey (K:=KS) (H0 (K:=KS) Dl Y1 Akt)
 |false=>
  rw [h1,cond_false] at h
  cases h2:Nat.beq f 115 with
  |true=>
   rw [h2,cond_true] at h
   obtain ⟨ha,he⟩:=Je h
   cases he
   rw [Nat.eq_of_beq_eq_true h2,Io _ _ ha]
   exact Ey (K:=KS) (H0 (K:=KS) Dl Y1 Af8)
  |false=>
   rw [h2,cond_false] at h
   cases h3:Nat.beq f 36 with
   |true=>
    rw [h3,cond_true] at h
    obtain ⟨ha,he⟩:=Je h
    cases he
    rw [Nat.eq_of_beq_eq_true h3,Io _ _ ha]
    exact Ey (K:=KS) (H0 (K:=KS) Dl Y1 wG)
   |false=>
    rw [h3,cond_false] at h
    exact Y1 _ _ _ _ _ _ _ h
theorem yE:V5 Tryz.prog KS spH 300 4=some true:=by decide+kernel
theorem sg4 {n:Nat} {t:ρ4} (h:g4 n=some t):Cj Tryz.prog KK.gl 4 [] (Ae t):=by
 cases h
 exact V2 (K:=KS) Dl Akq (k:=300) yE
end Go.Proofs.YtmechmjjcgdpdaaGreatDoor
