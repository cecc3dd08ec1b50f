/- Plain programs: loops, indices, searches. -/
import Derived.Test.YtlenkbgeomojnaaGreatDoorPG
set_option linter.unusedVariables false
set_option linter.unusedSimpArgs false
namespace Go.Proofs.YtlenkbgeomojnaaGreatDoor
/- a loop that goes on while I holds ends with Q -/
theorem iterO_rule {σ ρ:Type} {S:σ→Option (σ⊕ρ)} (I:σ→Prop) (Q:ρ→Prop) (μ:σ→Nat) (h:∀x,I x→(∃y,S x=some (.inl y)∧I y∧μ y<μ x)∨(∃r,S x=some (.inr r)∧Q r)):∀(n:Nat) (x:σ),I x→μ x<n→∃r,iterO S n x=some r∧Q r
 |0,x,_,hn=>absurd hn (Nat.not_lt_zero _)
 |n+1,x,hI,hn=>by
  unfold iterO
  rcases h x hI with ⟨y,e,hy,hlt⟩|⟨r,e,hr⟩
  ·rw [e];exact iterO_rule I Q μ h n y hy (by omega)
  ·rw [e];exact ⟨r,rfl,hr⟩
/- the same where the answer is known -/
theorem iterO_eq {σ ρ:Type} {S:σ→Option (σ⊕ρ)} (I:σ→Prop) (r:ρ) (μ:σ→Nat) (h:∀x,I x→(∃y,S x=some (.inl y)∧I y∧μ y<μ x)∨S x=some (.inr r)) (n:Nat) (x:σ) (hI:I x) (hn:μ x<n):iterO S n x=some r:=by
 obtain ⟨r',h1,h2⟩:=iterO_rule I (·=r) μ (fun x hx=>(h x hx).imp id fun h=>⟨r,h,rfl⟩) n x hI hn
 rw [h1,h2]
/- a loop over a list with values that turn: as a fold that may end early -/
def foldE {α σ ρ:Type} (f:σ→α→σ⊕ρ) (g:σ→ρ):σ→List α→ρ
 |s,[]=>g s
 |s,x::r=>match f s x with
  |.inl s'=>foldE f g s' r
  |.inr q=>q
theorem getI_at {α:Type} {l:List α} {i:Nat} {x:α} (h:l[i]?=some x):getI l (i:Int)=some x:=by rw [getI_nat];exact h
theorem wS {i:Nat} (h:i<9223372036854775807):IntKind.wrap .i64 ((i:Int)+1)=((i+1:Nat):Int):=wrap64 (by omega) (by omega)
theorem some_lt {α:Type} {l:List α} {i:Nat} {x:α} (h:l[i]?=some x):i<l.length:=by
 rcases Nat.lt_or_ge i l.length with h'|h'
 ·exact h'
 ·rw [List.getElem?_eq_none h'] at h;cases h
/- searches -/
def idxL {α:Type} (p:α→Bool):List α→Int
 |[]=> -1
 |x::r=>if p x then 0 else (if idxL p r<0 then -1 else idxL p r+1)
theorem idxL_ge {α:Type} (p:α→Bool):∀l:List α,-1≤idxL p l∧idxL p l<(l.length:Int)
 |[]=>by simp [idxL]
 |x::r=>by
  have:=idxL_ge p r
  simp only [idxL,List.length_cons]
  split
  ·omega
  ·split<;>omega
theorem index_loop {α:Type} (p:α→Bool) (l:List α) (hl:l.length≤9223372036854775807) {S:Int→Option (Int⊕Int)} (h:∀(i:Nat) (x:α),l[i]?=some x→S i=some (if p x then .inr (i:Int) else .inl ((i+1:Nat):Int))) (h0:S l.length=some (.inr (-1))) (n:Nat) (hn:l.length<n):iterO S n 0=some (idxL p l):=by
 have key:∀(n i:Nat),i≤l.length→l.length-i<n→iterO S n (i:Int)=some (if idxL p (l.drop i)<0 then -1 else idxL p (l.drop i)+i):=by
  intro n
  induction n with
  |zero=>intro i _ h;omega
  |succ n ih=>
   intro i hi hn
   unfold iterO
   rcases Nat.lt_or_ge i l.length with hlt|hge
   ·rw [h i _ (List.getElem?_eq_getElem hlt),List.drop_eq_getElem_cons hlt]
    simp only [idxL]
    by_cases hp:p l[i]=true
    ·simp [hp]
    ·simp only [hp,if_false,Bool.false_eq_true]
     rw [ih (i+1) hlt (by omega)]
     congr 1
     by_cases hq:idxL p (l.drop (i+1))<0
     ·simp [hq]
     ·simp only [hq,if_false];rw [if_neg (by omega)];omega
   ·have:i=l.length:=by omega
    subst this
    rw [h0]
    simp [idxL]
 have e:iterO S n 0=_:=key n 0 (Nat.zero_le _) (by omega)
 rw [e,List.drop_zero]
 congr 1
 have:=idxL_ge p l
 split
 ·omega
 ·simp
end Go.Proofs.YtlenkbgeomojnaaGreatDoor
