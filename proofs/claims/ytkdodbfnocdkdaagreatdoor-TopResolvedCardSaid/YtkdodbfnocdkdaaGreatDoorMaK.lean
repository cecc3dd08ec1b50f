/- Parts Math, Math2. -/
import Derived.Test.YtkdodbfnocdkdaaGreatDoorPG
set_option linter.unusedVariables false
set_option linter.unusedSimpArgs false
namespace Go.Proofs.YtkdodbfnocdkdaaGreatDoor
theorem Ei {σ ρ:Type} {S:σ→Option (σ⊕ρ)} (I:σ→Prop) (Q:ρ→Prop) (μ:σ→Nat) (h:∀x,I x→(∃y,S x=some (.inl y)∧I y∧μ y<μ x)∨(∃r,S x=some (.inr r)∧Q r)):∀(n:Nat) (x:σ),I x→μ x<n→∃r,Bw S n x=some r∧Q r
 |0,x,_,hn=>absurd hn (Nat.not_lt_zero _)
 |n+1,x,hI,hn=>by
  unfold Bw
  rcases h x hI with ⟨y,e,hy,hlt⟩|⟨r,e,hr⟩
  ·rw [e];exact Ei I Q μ h n y hy (by omega)
  ·rw [e];exact ⟨r,rfl,hr⟩
theorem J7 {σ ρ:Type} {S:σ→Option (σ⊕ρ)} (I:σ→Prop) (r:ρ) (μ:σ→Nat) (h:∀x,I x→(∃y,S x=some (.inl y)∧I y∧μ y<μ x)∨S x=some (.inr r)) (n:Nat) (x:σ) (hI:I x) (hn:μ x<n):Bw S n x=some r:=by
 obtain ⟨r',h1,h2⟩:=Ei I (·=r) μ (fun x hx=>(h x hx).imp id fun h=>⟨r,h,rfl⟩) n x hI hn
 rw [h1,h2]
def Aoq {α σ ρ:Type} (f:σ→α→σ⊕ρ) (g:σ→ρ):σ→List α→ρ
 |s,[]=>g s
 |s,x::r=>match f s x with
  |.inl s'=>Aoq f g s' r
  |.inr q=>q
theorem Bl {α:Type} {l:List α} {i:Nat} {x:α} (h:l[i]?=some x):Ch l (i:Int)=some x:=by rw [fO];exact h
theorem wS {i:Nat} (h:i<9223372036854775807):IntKind.wrap .i64 ((i:Int)+1)=((i+1:Nat):Int):=wrap64 (by omega) (by omega)
theorem Dt {α:Type} {l:List α} {i:Nat} {x:α} (h:l[i]?=some x):i<l.length:=by
 rcases Nat.lt_or_ge i l.length with h'|h'
 ·exact h'
 ·rw [List.getElem?_eq_none h'] at h;cases h
def Ef {α:Type} (p:α→Bool):List α→Int
 |[]=> -1
 |x::r=>if p x then 0 else (if Ef p r<0 then -1 else Ef p r+1)
theorem Og {α:Type} (p:α→Bool):∀l:List α,-1≤Ef p l∧Ef p l<(l.length:Int)
 |[]=>by simp [Ef]
 |x::r=>by
  have:=Og p r
  simp only [Ef,List.length_cons]
  split
  ·omega
  ·split<;>omega
theorem Lf {α:Type} (p:α→Bool):∀l:List α,Ef p l<0↔∀x∈l,p x=false
 |[]=>by simp [Ef]
 |x::r=>by
  have ih:=Lf p r
  simp only [Ef]
  cases hp:p x with
  |true=>simp [hp]
  |false=>
   simp only [Bool.false_eq_true,if_false]
   constructor
   ·intro h y hy
    rcases List.mem_cons.1 hy with rfl|hy
    ·exact hp
    ·refine ih.1 ?_ y hy
     split at h
     ·assumption
     ·omega
   ·intro h
    have:=ih.2 fun y hy=>h y (by simp [hy])
    rw [if_pos this];omega
theorem Q1 {α:Type} (p:α→Bool):∀(l:List α),0≤Ef p l→∃x,l[(Ef p l).toNat]?=some x∧p x=true∧∀j,j<(Ef p l).toNat→∀y,l[j]?=some y→p y=false
 |[],h=>by simp [Ef] at h
 |x::r,h=>by
  simp only [Ef] at h ⊢
  cases hp:p x with
  |true=>exact ⟨x,by simp [hp],hp,fun j hj=>by simp [hp] at hj⟩
  |false=>
   rw [hp] at h
   simp only [Bool.false_eq_true,if_false] at h ⊢
   split at h
   ·omega
   ·rename_i h'
    rw [if_neg h']
    obtain ⟨y,h1,h2,h3⟩:=Q1 p r (by omega)
    have e:(Ef p r+1).toNat=(Ef p r).toNat+1:=by omega
    rw [e]
    refine ⟨y,by simpa using h1,h2,fun j hj z hz=> ?_⟩
    cases j with
    |zero=>simp at hz;rw [← hz];exact hp
    |succ j=>exact h3 j (by omega) z (by simpa using hz)
theorem Ii {α:Type} (p:α→Bool) (l:List α) (hl:l.length≤9223372036854775807) {S:Int→Option (Int⊕Int)} (h:∀(i:Nat) (x:α),l[i]?=some x→S i=some (if p x then .inr (i:Int) else .inl ((i+1:Nat):Int))) (h0:S l.length=some (.inr (-1))) (n:Nat) (hn:l.length<n):Bw S n 0=some (Ef p l):=by
 have key:∀(n i:Nat),i≤l.length→l.length-i<n→Bw S n (i:Int)=some (if Ef p (l.drop i)<0 then -1 else Ef p (l.drop i)+i):=by
  intro n
  induction n with
  |zero=>intro i _ h;omega
  |succ n ih=>
   intro i hi hn
   unfold Bw
   rcases Nat.lt_or_ge i l.length with hlt|hge
   ·rw [h i _ (List.getElem?_eq_getElem hlt),List.drop_eq_getElem_cons hlt]
    simp only [Ef]
    by_cases hp:p l[i]=true
    ·simp [hp]
    ·simp only [hp,if_false,Bool.false_eq_true]
     rw [ih (i+1) hlt (by omega)]
     congr 1
     by_cases hq:Ef p (l.drop (i+1))<0
     ·simp [hq]
     ·simp only [hq,if_false];rw [if_neg (by omega)];omega
   ·have:i=l.length:=by omega
    subst this
    rw [h0]
    simp [Ef]
 have e:Bw S n 0=_:=key n 0 (Nat.zero_le _) (by omega)
 rw [e,List.drop_zero]
 congr 1
 have:=Og p l
 split
 ·omega
 ·simp
end Go.Proofs.YtkdodbfnocdkdaaGreatDoor
set_option linter.unusedVariables false
set_option linter.unusedSimpArgs false
namespace Go.Proofs.YtkdodbfnocdkdaaGreatDoor
theorem Fk {k by_:Nat} (h1:k*by_≤140737488355328) (h2:k≤4611686018427387904):D0 k by_=some ():=by simp [D0,h1,h2]
theorem wC {α:Type} (l:List α) (i:Nat) (h:i≤l.length):F0 l none (some (i:Int))=some (l.take i):=by
 simp only [F0,Option.getD_none,Option.getD_some]
 rw [if_pos ⟨Int.le_refl _,by omega,by omega⟩]
 simp
def Awa (a b:ByteArray):Int:=if Op.bytesLess a.toList b.toList then -1 else if Op.bytesLess b.toList a.toList then 1 else 0
theorem Aap {α β:Type} (f:α→β):∀{L:List α},L.Pairwise (fun x y=>f x≠f y)→∀x∈L,∀y∈L,f x=f y→x=y
 |[],_,x,hx,_,_,_=>by simp at hx
 |a::r,h,x,hx,y,hy,e=>by
  rw [List.pairwise_cons] at h
  rcases List.mem_cons.1 hx with h1|h1<;>rcases List.mem_cons.1 hy with h2|h2
  ·rw [h1,h2]
  ·subst h1;exact absurd e (h.1 y h2)
  ·subst h2;exact absurd e.symm (h.1 x h1)
  ·exact Aap f h.2 x h1 y h2 e
theorem Oi {α ρ:Type} {S:Int→Option (Int⊕ρ)} (l:List α) (P:Nat→α→Prop) (bad:ρ→Prop) (good:ρ) (h:∀(i:Nat) (x:α),l[i]?=some x→(S (i:Int)=some (.inl ((i+1:Nat):Int))∧P i x)∨∃r,S (i:Int)=some (.inr r)∧bad r) (h0:S (l.length:Int)=some (.inr good)) (n:Nat) (hn:l.length<n):
  ∃r,Bw S n 0=some r∧(bad r∨r=good∧∀(i:Nat) (x:α),l[i]?=some x→P i x):=by
 refine Ei (fun x=>∃i:Nat,i≤l.length∧x=(i:Int)∧∀(j:Nat) (x:α),j<i→l[j]?=some x→P j x) _ (fun x=>l.length-x.toNat) ?_ n _ ⟨0,Nat.zero_le _,rfl,fun j x h=>absurd h (Nat.not_lt_zero _)⟩ (by simpa using hn)
 rintro _ ⟨i,hi,rfl,hP⟩
 rcases Nat.lt_or_ge i l.length with hlt|hge
 ·rcases h i _ (List.getElem?_eq_getElem hlt) with ⟨k,k1⟩|⟨r,k,k1⟩
  ·refine .inl ⟨_,k,⟨i+1,hlt,rfl,fun j x hj hx=> ?_⟩,by simp;omega⟩
   rcases Nat.lt_or_ge j i with h'|h'
   ·exact hP j x h' hx
   ·have:j=i:=by omega
    subst this
    rw [List.getElem?_eq_getElem hlt] at hx
    cases hx
    exact k1
  ·exact .inr ⟨r,k,.inl k1⟩
 ·have:i=l.length:=by omega
  subst this
  exact .inr ⟨good,h0,.inr ⟨rfl,fun j x hx=>hP j x (Dt hx) hx⟩⟩
theorem gR {α:Type} [DecidableEq α] (a b:List α) (hl:a.length=b.length) {S:Int→Option (Int⊕Bool)} (h:∀(i:Nat) (x y:α),a[i]?=some x→b[i]?=some y→S (i:Int)=some (if x=y then .inl ((i+1:Nat):Int) else .inr false)) (h0:S (a.length:Int)=some (.inr true)) (n:Nat) (hn:a.length<n):Bw S n 0=some (decide (a=b)):=by
 refine J7 (fun x=>∃i:Nat,i≤a.length∧x=(i:Int)∧a.take i=b.take i) _ (fun x=>a.length-x.toNat) ?_ n _ ⟨0,Nat.zero_le _,rfl,rfl⟩ (by simpa using hn)
 rintro _ ⟨i,hi,rfl,hP⟩
 rcases Nat.lt_or_ge i a.length with hlt|hge
 ·have hx:=List.getElem?_eq_getElem hlt
  have hy:=List.getElem?_eq_getElem (l:=b) (i:=i) (by omega)
  have ha:=List.take_succ_eq_append_getElem hlt
  have hb:=List.take_succ_eq_append_getElem (l:=b) (i:=i) (by omega)
  have k:=h i _ _ hx hy
  by_cases e:a[i]=b[i]
  ·rw [if_pos e] at k
   exact .inl ⟨_,k,⟨i+1,hlt,rfl,by rw [ha,hb,hP,e]⟩,by simp;omega⟩
  ·rw [if_neg e] at k
   right
   rw [k,decide_eq_false]
   intro q
   subst q
   exact e rfl
 ·have:i=a.length:=by omega
  subst this
  rw [List.take_length,hl,List.take_length] at hP
  right
  rw [h0,decide_eq_true hP]
end Go.Proofs.YtkdodbfnocdkdaaGreatDoor
