/- A part. -/
import Derived.Test.YtmechmjjcgdpdaaGreatDoorPG
set_option linter.unusedVariables false
set_option linter.unusedSimpArgs false
namespace Go.Proofs.YtmechmjjcgdpdaaGreatDoor
theorem Cb {σ ρ:Type} {S:σ→Option (σ⊕ρ)} (I:σ→Prop) (Q:ρ→Prop) (μ:σ→Nat) (h:∀x,I x→(∃y,S x=some (.inl y)∧I y∧μ y<μ x)∨(∃r,S x=some (.inr r)∧Q r)):∀(n:Nat) (x:σ),I x→μ x<n→∃r,A7 S n x=some r∧Q r
 |0,x,_,hn=>absurd hn (Nat.not_lt_zero _)
 |n+1,x,hI,hn=>by
  unfold A7
  rcases h x hI with ⟨y,e,hy,hlt⟩|⟨r,e,hr⟩
  ·rw [e];exact Cb I Q μ h n y hy (by omega)
  ·rw [e];exact ⟨r,rfl,hr⟩
theorem Hr {σ ρ:Type} {S:σ→Option (σ⊕ρ)} (I:σ→Prop) (r:ρ) (μ:σ→Nat) (h:∀x,I x→(∃y,S x=some (.inl y)∧I y∧μ y<μ x)∨S x=some (.inr r)) (n:Nat) (x:σ) (hI:I x) (hn:μ x<n):A7 S n x=some r:=by
 obtain ⟨r',h1,h2⟩:=Cb I (·=r) μ (fun x hx=>(h x hx).imp id fun h=>⟨r,h,rfl⟩) n x hI hn
 rw [h1,h2]
def Alp {α σ ρ:Type} (f:σ→α→σ⊕ρ) (g:σ→ρ):σ→List α→ρ
 |s,[]=>g s
 |s,x::r=>match f s x with
  |.inl s'=>Alp f g s' r
  |.inr q=>q
theorem Bv {α:Type} {l:List α} {i:Nat} {x:α} (h:l[i]?=some x):Cd l (i:Int)=some x:=by rw [yP];exact h
theorem wS {i:Nat} (h:i<9223372036854775807):IntKind.wrap .i64 ((i:Int)+1)=((i+1:Nat):Int):=wrap64 (by omega) (by omega)
theorem Dt {α:Type} {l:List α} {i:Nat} {x:α} (h:l[i]?=some x):i<l.length:=by
 rcases Nat.lt_or_ge i l.length with h'|h'
 ·exact h'
 ·rw [List.getElem?_eq_none h'] at h;cases h
def Dq {α:Type} (p:α→Bool):List α→Int
 |[]=> -1
 |x::r=>if p x then 0 else (if Dq p r<0 then -1 else Dq p r+1)
theorem Qg {α:Type} (p:α→Bool):∀l:List α,-1≤Dq p l∧Dq p l<(l.length:Int)
 |[]=>by simp [Dq]
 |x::r=>by
  have:=Qg p r
  simp only [Dq,List.length_cons]
  split
  ·omega
  ·split<;>omega
theorem Mb {α:Type} (p:α→Bool):∀l:List α,Dq p l<0↔∀x∈l,p x=false
 |[]=>by simp [Dq]
 |x::r=>by
  have ih:=Mb p r
  simp only [Dq]
  cases hp:p x with
  |true=>simp [hp]
  |false=>
   simp only [Bool.false_eq_true,if_false]
   constructor
   ·intro h y hy
    rcases List.mem_cons.1 hy with rfl|hy
    ·exact hp
    ·refine ih.1 ?_ y hy
     split at h
     ·assumption
     ·omega
   ·intro h
    have:=ih.2 fun y hy=>h y (by simp [hy])
    rw [if_pos this];omega
theorem Z1 {α:Type} (p:α→Bool):∀(l:List α),0≤Dq p l→∃x,l[(Dq p l).toNat]?=some x∧p x=true∧∀j,j<(Dq p l).toNat→∀y,l[j]?=some y→p y=false
 |[],h=>by simp [Dq] at h
 |x::r,h=>by
  simp only [Dq] at h ⊢
  cases hp:p x with
  |true=>exact ⟨x,by simp [hp],hp,fun j hj=>by simp [hp] at hj⟩
  |false=>
   rw [hp] at h
   simp only [Bool.false_eq_true,if_false] at h ⊢
   split at h
   ·omega
   ·rename_i h'
    rw [if_neg h']
    obtain ⟨y,h1,h2,h3⟩:=Z1 p r (by omega)
    have e:(Dq p r+1).toNat=(Dq p r).toNat+1:=by omega
    rw [e]
    refine ⟨y,by simpa using h1,h2,fun j hj z hz=> ?_⟩
    cases j with
    |zero=>simp at hz;rw [← hz];exact hp
    |succ j=>exact h3 j (by omega) z (by simpa using hz)
theorem Jb {α:Type} (p:α→Bool) (l:List α) (hl:l.length≤9223372036854775807) {S:Int→Option (Int⊕Int)} (h:∀(i:Nat) (x:α),l[i]?=some x→S i=some (if p x then .inr (i:Int) else .inl ((i+1:Nat):Int))) (h0:S l.length=some (.inr (-1))) (n:Nat) (hn:l.length<n):A7 S n 0=some (Dq p l):=by
 have key:∀(n i:Nat),i≤l.length→l.length-i<n→A7 S n (i:Int)=some (if Dq p (l.drop i)<0 then -1 else Dq p (l.drop i)+i):=by
  intro n
  induction n with
  |zero=>intro i _ h;omega
  |succ n ih=>
   intro i hi hn
   unfold A7
   rcases Nat.lt_or_ge i l.length with hlt|hge
   ·rw [h i _ (List.getElem?_eq_getElem hlt),List.drop_eq_getElem_cons hlt]
    simp only [Dq]
    by_cases hp:p l[i]=true
    ·simp [hp]
    ·simp only [hp,if_false,Bool.false_eq_true]
     rw [ih (i+1) hlt (by omega)]
     congr 1
     by_cases hq:Dq p (l.drop (i+1))<0
     ·simp [hq]
     ·simp only [hq,if_false];rw [if_neg (by omega)];omega
   ·have:i=l.length:=by omega
    subst this
    rw [h0]
    simp [Dq]
 have e:A7 S n 0=_:=key n 0 (Nat.zero_le _) (by omega)
 rw [e,List.drop_zero]
 congr 1
 have:=Qg p l
 split
 ·omega
 ·simp
end Go.Proofs.YtmechmjjcgdpdaaGreatDoor
