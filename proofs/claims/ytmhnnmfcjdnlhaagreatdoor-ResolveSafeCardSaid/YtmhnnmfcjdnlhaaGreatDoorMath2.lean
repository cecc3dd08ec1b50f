/- A part. -/
import Derived.Test.YtmhnnmfcjdnlhaaGreatDoorMath
set_option linter.unusedVariables false
set_option linter.unusedSimpArgs false
namespace Go.Proofs.YtmhnnmfcjdnlhaaGreatDoor
theorem Io {k by_:Nat} (h1:k*by_≤140737488355328) (h2:k≤4611686018427387904):Fc k by_=some ():=by simp [Fc,h1,h2]
def Ah4 (a b:ByteArray):Int:=if Op.bytesLess a.toList b.toList then -1 else if Op.bytesLess b.toList a.toList then 1 else 0
theorem J8 {α ρ:Type} {S:Int→Option (Int⊕ρ)} (l:List α) (P:Nat→α→Prop) (bad:ρ→Prop) (good:ρ) (h:∀(i:Nat) (x:α),l[i]?=some x→(S (i:Int)=some (.inl ((i+1:Nat):Int))∧P i x)∨∃r,S (i:Int)=some (.inr r)∧bad r) (h0:S (l.length:Int)=some (.inr good)) (n:Nat) (hn:l.length<n):
  ∃r,Bt S n 0=some r∧(bad r∨r=good∧∀(i:Nat) (x:α),l[i]?=some x→P i x):=by
 refine E7 (fun x=>∃i:Nat,i≤l.length∧x=(i:Int)∧∀(j:Nat) (x:α),j<i→l[j]?=some x→P j x) _ (fun x=>l.length-x.toNat) ?_ n _ ⟨0,Nat.zero_le _,rfl,fun j x h=>absurd h (Nat.not_lt_zero _)⟩ (by simpa using hn)
 rintro _ ⟨i,hi,rfl,hP⟩
 rcases Nat.lt_or_ge i l.length with hlt|hge
 ·rcases h i _ (List.getElem?_eq_getElem hlt) with ⟨k,k1⟩|⟨r,k,k1⟩
  ·refine .inl ⟨_,k,⟨i+1,hlt,rfl,fun j x hj hx=> ?_⟩,by simp;omega⟩
   rcases Nat.lt_or_ge j i with h'|h'
   ·exact hP j x h' hx
   ·have:j=i:=by omega
    subst this
    rw [List.getElem?_eq_getElem hlt] at hx
    cases hx
    exact k1
  ·exact .inr ⟨r,k,.inl k1⟩
 ·have:i=l.length:=by omega
  subst this
  exact .inr ⟨good,h0,.inr ⟨rfl,fun j x hx=>hP j x (Fi hx) hx⟩⟩
theorem aP {α:Type} [DecidableEq α] (a b:List α) (hl:a.length=b.length) {S:Int→Option (Int⊕Bool)} (h:∀(i:Nat) (x y:α),a[i]?=some x→b[i]?=some y→S (i:Int)=some (if x=y then .inl ((i+1:Nat):Int) else .inr false)) (h0:S (a.length:Int)=some (.inr true)) (n:Nat) (hn:a.length<n):Bt S n 0=some (decide (a=b)):=by
 refine N5 (fun x=>∃i:Nat,i≤a.length∧x=(i:Int)∧a.take i=b.take i) _ (fun x=>a.length-x.toNat) ?_ n _ ⟨0,Nat.zero_le _,rfl,rfl⟩ (by simpa using hn)
 rintro _ ⟨i,hi,rfl,hP⟩
 rcases Nat.lt_or_ge i a.length with hlt|hge
 ·have hx:=List.getElem?_eq_getElem hlt
  have hy:=List.getElem?_eq_getElem (l:=b) (i:=i) (by omega)
  have ha:=List.take_succ_eq_append_getElem hlt
  have hb:=List.take_succ_eq_append_getElem (l:=b) (i:=i) (by omega)
  have k:=h i _ _ hx hy
  by_cases e:a[i]=b[i]
  ·rw [if_pos e] at k
   exact .inl ⟨_,k,⟨i+1,hlt,rfl,by rw [ha,hb,hP,e]⟩,by simp;omega⟩
  ·rw [if_neg e] at k
   right
   rw [k,decide_eq_false]
   intro q
   subst q
   exact e rfl
 ·have:i=a.length:=by omega
  subst this
  rw [List.take_length,hl,List.take_length] at hP
  right
  rw [h0,decide_eq_true hP]
end Go.Proofs.YtmhnnmfcjdnlhaaGreatDoor
