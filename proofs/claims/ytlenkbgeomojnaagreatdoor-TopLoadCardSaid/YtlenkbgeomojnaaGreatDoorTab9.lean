/- Loops over an index, and lists as tables of a function. -/
import Derived.Test.YtlenkbgeomojnaaGreatDoorMath2
set_option linter.unusedVariables false
set_option linter.unusedSimpArgs false
namespace Go.Proofs.YtlenkbgeomojnaaGreatDoor
theorem iter_seq {ρ β:Type} {S:Int×β→Option ((Int×β)⊕ρ)} (k:Nat) (Y:Nat→β) (z:ρ) (h:∀i:Nat,i<k→S ((i:Int),Y i)=some (.inl (((i+1:Nat):Int),Y (i+1)))) (h0:S ((k:Int),Y k)=some (.inr z)) (n:Nat) (hn:k<n) (y0:β) (hy:y0=Y 0):iterO S n ((0:Int),y0)=some z:=by
 subst hy
 refine iterO_eq (fun y=>∃i:Nat,i≤k∧y=((i:Int),Y i)) z (fun y=>k-y.1.toNat) ?_ n _ ⟨0,Nat.zero_le _,rfl⟩ (by show k-(0:Int).toNat<n;omega)
 rintro _ ⟨i,hi,rfl⟩
 rcases Nat.lt_or_ge i k with hlt|hge
 ·exact .inl ⟨_,h i hlt,⟨i+1,hlt,rfl⟩,by show k-((i+1:Nat):Int).toNat<k-(i:Int).toNat;omega⟩
 ·have:i=k:=by omega
  subst this
  exact .inr h0
theorem iter_off {ρ β:Type} {S:Int×β→Option ((Int×β)⊕ρ)} (F:Int) (k:Nat) (Y:Nat→β) (z:ρ) (h:∀i:Nat,i<k→S (F+(i:Int),Y i)=some (.inl (F+((i+1:Nat):Int),Y (i+1)))) (h0:S (F+(k:Int),Y k)=some (.inr z)) (n:Nat) (hn:k<n) (y0:β) (hy:y0=Y 0):iterO S n (F,y0)=some z:=by
 subst hy
 refine iterO_eq (fun y=>∃i:Nat,i≤k∧y=(F+(i:Int),Y i)) z (fun y=>k-(y.1-F).toNat) ?_ n _ ⟨0,Nat.zero_le _,by simp⟩ (by show k-(F-F).toNat<n;omega)
 rintro _ ⟨i,hi,rfl⟩
 rcases Nat.lt_or_ge i k with hlt|hge
 ·exact .inl ⟨_,h i hlt,⟨i+1,hlt,rfl⟩,by show k-(F+((i+1:Nat):Int)-F).toNat<k-(F+(i:Int)-F).toNat;omega⟩
 ·have:i=k:=by omega
  subst this
  exact .inr h0
def tab (m:Nat) (f:Nat→Int):List Int:=(List.range m).map f
theorem tab_len (m:Nat) (f:Nat→Int):(tab m f).length=m:=by simp [tab]
theorem tab_at {m:Nat} {f:Nat→Int} {k:Nat} (h:k<m):(tab m f)[k]?=some (f k):=by simp [tab,h]
theorem tab_set (m:Nat) (f g:Nat→Int) (k:Nat) (x:Int) (h:∀s,g s=if s=k then x else f s):(tab m f).set k x=tab m g:=by
 apply List.ext_getElem?
 intro s
 rw [List.getElem?_set]
 by_cases hs:s<m
 ·rw [tab_at (f:=g) hs,tab_at hs,h s,tab_len]
  by_cases e:s=k
  ·subst e;simp [hs]
  ·rw [if_neg (Ne.symm e),if_neg e]
 ·have h1:∀f:Nat→Int,(tab m f)[s]?=none:=fun f=>List.getElem?_eq_none (by rw [tab_len];omega)
  rw [h1 g,h1 f,tab_len]
  by_cases e:k=s
  ·subst e;simp [hs]
  ·rw [if_neg e]
end Go.Proofs.YtlenkbgeomojnaaGreatDoor
