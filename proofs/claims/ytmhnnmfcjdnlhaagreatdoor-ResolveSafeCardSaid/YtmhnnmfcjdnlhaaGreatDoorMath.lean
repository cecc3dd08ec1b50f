/- A part. -/
import Derived.Test.YtmhnnmfcjdnlhaaGreatDoorPG
set_option linter.unusedVariables false
set_option linter.unusedSimpArgs false
namespace Go.Proofs.YtmhnnmfcjdnlhaaGreatDoor
theorem E7 {σ ρ:Type} {S:σ→Option (σ⊕ρ)} (I:σ→Prop) (Q:ρ→Prop) (μ:σ→Nat) (h:∀x,I x→(∃y,S x=some (.inl y)∧I y∧μ y<μ x)∨(∃r,S x=some (.inr r)∧Q r)):∀(n:Nat) (x:σ),I x→μ x<n→∃r,Bt S n x=some r∧Q r
 |0,x,_,hn=>absurd hn (Nat.not_lt_zero _)
 |n+1,x,hI,hn=>by
  unfold Bt
  rcases h x hI with ⟨y,e,hy,hlt⟩|⟨r,e,hr⟩
  ·rw [e];exact E7 I Q μ h n y hy (by omega)
  ·rw [e];exact ⟨r,rfl,hr⟩
theorem N5 {σ ρ:Type} {S:σ→Option (σ⊕ρ)} (I:σ→Prop) (r:ρ) (μ:σ→Nat) (h:∀x,I x→(∃y,S x=some (.inl y)∧I y∧μ y<μ x)∨S x=some (.inr r)) (n:Nat) (x:σ) (hI:I x) (hn:μ x<n):Bt S n x=some r:=by
 obtain ⟨r',h1,h2⟩:=E7 I (·=r) μ (fun x hx=>(h x hx).imp id fun h=>⟨r,h,rfl⟩) n x hI hn
 rw [h1,h2]
def Adh {α σ ρ:Type} (f:σ→α→σ⊕ρ) (g:σ→ρ):σ→List α→ρ
 |s,[]=>g s
 |s,x::r=>match f s x with
  |.inl s'=>Adh f g s' r
  |.inr q=>q
theorem Cg {α:Type} {l:List α} {i:Nat} {x:α} (h:l[i]?=some x):Dq l (i:Int)=some x:=by rw [lT];exact h
theorem wS {i:Nat} (h:i<9223372036854775807):IntKind.wrap .i64 ((i:Int)+1)=((i+1:Nat):Int):=wrap64 (by omega) (by omega)
theorem Fi {α:Type} {l:List α} {i:Nat} {x:α} (h:l[i]?=some x):i<l.length:=by
 rcases Nat.lt_or_ge i l.length with h'|h'
 ·exact h'
 ·rw [List.getElem?_eq_none h'] at h;cases h
def Ii {α:Type} (p:α→Bool):List α→Int
 |[]=> -1
 |x::r=>if p x then 0 else (if Ii p r<0 then -1 else Ii p r+1)
theorem U8 {α:Type} (p:α→Bool):∀l:List α,-1≤Ii p l∧Ii p l<(l.length:Int)
 |[]=>by simp [Ii]
 |x::r=>by
  have:=U8 p r
  simp only [Ii,List.length_cons]
  split
  ·omega
  ·split<;>omega
theorem W4 {α:Type} (p:α→Bool):∀l:List α,Ii p l<0↔∀x∈l,p x=false
 |[]=>by simp [Ii]
 |x::r=>by
  have ih:=W4 p r
  simp only [Ii]
  cases hp:p x with
  |true=>simp [hp]
  |false=>
   simp only [Bool.false_eq_true,if_false]
   constructor
   ·intro h y hy
    rcases List.mem_cons.1 hy with rfl|hy
    ·exact hp
    ·refine ih.1 ?_ y hy
     split at h
     ·assumption
     ·omega
   ·intro h
    have:=ih.2 fun y hy=>h y (by simp [hy])
    rw [if_pos this];omega
theorem eS {α:Type} (p:α→Bool):∀(l:List α),0≤Ii p l→∃x,l[(Ii p l).toNat]?=some x∧p x=true∧∀j,j<(Ii p l).toNat→∀y,l[j]?=some y→p y=false
 |[],h=>by simp [Ii] at h
 |x::r,h=>by
  simp only [Ii] at h ⊢
  cases hp:p x with
  |true=>exact ⟨x,by simp [hp],hp,fun j hj=>by simp [hp] at hj⟩
  |false=>
   rw [hp] at h
   simp only [Bool.false_eq_true,if_false] at h ⊢
   split at h
   ·omega
   ·rename_i h'
    rw [if_neg h']
    obtain ⟨y,h1,h2,h3⟩:=eS p r (by omega)
    have e:(Ii p r+1).toNat=(Ii p r).toNat+1:=by omega
    rw [e]
    refine ⟨y,by simpa using h1,h2,fun j hj z hz=> ?_⟩
    cases j with
    |zero=>simp at hz;rw [← hz];exact hp
    |succ j=>exact h3 j (by omega) z (by simpa using hz)
theorem Rj {α:Type} (p:α→Bool) (l:List α) (hl:l.length≤9223372036854775807) {S:Int→Option (Int⊕Int)} (h:∀(i:Nat) (x:α),l[i]?=some x→S i=some (if p x then .inr (i:Int) else .inl ((i+1:Nat):Int))) (h0:S l.length=some (.inr (-1))) (n:Nat) (hn:l.length<n):Bt S n 0=some (Ii p l):=by
 have key:∀(n i:Nat),i≤l.length→l.length-i<n→Bt S n (i:Int)=some (if Ii p (l.drop i)<0 then -1 else Ii p (l.drop i)+i):=by
  intro n
  induction n with
  |zero=>intro i _ h;omega
  |succ n ih=>
   intro i hi hn
   unfold Bt
   rcases Nat.lt_or_ge i l.length with hlt|hge
   ·rw [h i _ (List.getElem?_eq_getElem hlt),List.drop_eq_getElem_cons hlt]
    simp only [Ii]
    by_cases hp:p l[i]=true
    ·simp [hp]
    ·simp only [hp,if_false,Bool.false_eq_true]
     rw [ih (i+1) hlt (by omega)]
     congr 1
     by_cases hq:Ii p (l.drop (i+1))<0
     ·simp [hq]
     ·simp only [hq,if_false];rw [if_neg (by omega)];omega
   ·have:i=l.length:=by omega
    subst this
    rw [h0]
    simp [Ii]
 have e:Bt S n 0=_:=key n 0 (Nat.zero_le _) (by omega)
 rw [e,List.drop_zero]
 congr 1
 have:=U8 p l
 split
 ·omega
 ·simp
end Go.Proofs.YtmhnnmfcjdnlhaaGreatDoor
