/- A part. -/
import Derived.Test.YtmechmjjcgdpdaaGreatDoorMath
set_option linter.unusedVariables false
set_option linter.unusedSimpArgs false
namespace Go.Proofs.YtmechmjjcgdpdaaGreatDoor
theorem Hj {k by_:Nat} (h1:k*by_≤140737488355328) (h2:k≤4611686018427387904):Gl k by_=some ():=by simp [Gl,h1,h2]
theorem O4 {α:Type} (l:List α) (i:Nat) (h:i≤l.length):Lb l none (some (i:Int))=some (l.take i):=by
 simp only [Lb,Option.getD_none,Option.getD_some]
 rw [if_pos ⟨Int.le_refl _,by omega,by omega⟩]
 simp
theorem Vc:∀a:List UInt8,Op.bytesLess a a=false
 |[]=>rfl
 |a::r=>by simp [Op.bytesLess,Vc r]
theorem Ue:∀a b:List UInt8,Op.bytesLess a b=true→Op.bytesLess b a=false
 |_,[],h=>by simp [Op.bytesLess] at h
 |[],b::s,_=>rfl
 |a::r,b::s,h=>by
  simp only [Op.bytesLess,Bool.or_eq_true,Bool.and_eq_true,decide_eq_true_eq,beq_iff_eq] at h
  simp only [Op.bytesLess,Bool.or_eq_false_iff,decide_eq_false_iff_not,Bool.and_eq_false_iff]
  rcases h with h|⟨rfl,h⟩
  ·exact ⟨by simpa using UInt8.le_of_lt h,.inl (by simp;rintro rfl;exact absurd h (UInt8.lt_irrefl _))⟩
  ·exact ⟨by simp,.inr (Ue r s h)⟩
theorem L3:∀a b:List UInt8,Op.bytesLess a b=true∨Op.bytesLess b a=true∨a=b
 |[],[]=> .inr (.inr rfl)
 |[],b::s=> .inl rfl
 |a::r,[]=> .inr (.inl rfl)
 |a::r,b::s=>by
  simp only [Op.bytesLess,Bool.or_eq_true,Bool.and_eq_true,decide_eq_true_eq,beq_iff_eq,List.cons.injEq]
  rcases Nat.lt_trichotomy a.toNat b.toNat with h|h|h
  ·exact .inl (.inl h)
  ·have:a=b:=UInt8.toNat_inj.1 h
   subst this
   rcases L3 r s with h|h|h
   ·exact .inl (.inr ⟨rfl,h⟩)
   ·exact .inr (.inl (.inr ⟨rfl,h⟩))
   ·exact .inr (.inr ⟨rfl,h⟩)
  ·exact .inr (.inl (.inl h))
theorem O3:∀a b c:List UInt8,Op.bytesLess a b=true→Op.bytesLess b c=true→Op.bytesLess a c=true
 |_,_,[],_,h=>by simp [Op.bytesLess] at h
 |_,[],_::_,h,_=>by simp [Op.bytesLess] at h
 |[],b::s,c::t,_,_=>rfl
 |a::r,b::s,c::t,h1,h2=>by
  simp only [Op.bytesLess,Bool.or_eq_true,Bool.and_eq_true,decide_eq_true_eq,beq_iff_eq] at h1 h2 ⊢
  rcases h1 with h1|⟨rfl,h1⟩
  ·rcases h2 with h2|⟨rfl,h2⟩
   ·exact .inl (UInt8.lt_trans h1 h2)
   ·exact .inl h1
  ·rcases h2 with h2|⟨rfl,h2⟩
   ·exact .inl h2
   ·exact .inr ⟨rfl,O3 r s t h1 h2⟩
def Art (a b:ByteArray):Int:=if Op.bytesLess a.toList b.toList then -1 else if Op.bytesLess b.toList a.toList then 1 else 0
theorem u9 {α β:Type} (f:α→β):∀{L:List α},L.Pairwise (fun x y=>f x≠f y)→∀x∈L,∀y∈L,f x=f y→x=y
 |[],_,x,hx,_,_,_=>by simp at hx
 |a::r,h,x,hx,y,hy,e=>by
  rw [List.pairwise_cons] at h
  rcases List.mem_cons.1 hx with h1|h1<;>rcases List.mem_cons.1 hy with h2|h2
  ·rw [h1,h2]
  ·subst h1;exact absurd e (h.1 y h2)
  ·subst h2;exact absurd e.symm (h.1 x h1)
  ·exact u9 f h.2 x h1 y h2 e
theorem Rh {α ρ:Type} {S:Int→Option (Int⊕ρ)} (l:List α) (P:Nat→α→Prop) (bad:ρ→Prop) (Td:ρ) (h:∀(i:Nat) (x:α),l[i]?=some x→(S (i:Int)=some (.inl ((i+1:Nat):Int))∧P i x)∨∃r,S (i:Int)=some (.inr r)∧bad r) (h0:S (l.length:Int)=some (.inr Td)) (n:Nat) (hn:l.length<n):
  ∃r,A7 S n 0=some r∧(bad r∨r=Td∧∀(i:Nat) (x:α),l[i]?=some x→P i x):=by
 refine Cb (fun x=>∃i:Nat,i≤l.length∧x=(i:Int)∧∀(j:Nat) (x:α),j<i→l[j]?=some x→P j x) _ (fun x=>l.length-x.toNat) ?_ n _ ⟨0,Nat.zero_le _,rfl,fun j x h=>absurd h (Nat.not_lt_zero _)⟩ (by simpa using hn)
 rintro _ ⟨i,hi,rfl,hP⟩
 rcases Nat.lt_or_ge i l.length with hlt|hge
 ·rcases h i _ (List.getElem?_eq_getElem hlt) with ⟨k,k1⟩|⟨r,k,k1⟩
  ·refine .inl ⟨_,k,⟨i+1,hlt,rfl,fun j x hj hx=> ?_⟩,by simp;omega⟩
   rcases Nat.lt_or_ge j i with h'|h'
   ·exact hP j x h' hx
   ·have:j=i:=by omega
    subst this
    rw [List.getElem?_eq_getElem hlt] at hx
    cases hx
    exact k1
  ·exact .inr ⟨r,k,.inl k1⟩
 ·have:i=l.length:=by omega
  subst this
  exact .inr ⟨Td,h0,.inr ⟨rfl,fun j x hx=>hP j x (Dt hx) hx⟩⟩
theorem Aar {α ρ:Type} {S:Int→Option (Int⊕ρ)} (l:List α) (ok:α→Bool) (bad:α→ρ) (Td:ρ) (h:∀(i:Nat) (x:α),l[i]?=some x→S (i:Int)=some (if ok x then .inl ((i+1:Nat):Int) else .inr (bad x))) (h0:S (l.length:Int)=some (.inr Td)) (n:Nat) (hn:l.length<n):
  A7 S n 0=some (match l.find? (fun x=> !ok x) with|some x=>bad x|none=>Td):=by
 refine Hr (fun x=>∃i:Nat,i≤l.length∧x=(i:Int)∧l.find? (fun x=> !ok x)=(l.drop i).find? (fun x=> !ok x)) _ (fun x=>l.length-x.toNat) ?_ n _ ⟨0,Nat.zero_le _,rfl,rfl⟩ (by simpa using hn)
 rintro _ ⟨i,hi,rfl,hP⟩
 rcases Nat.lt_or_ge i l.length with hlt|hge
 ·have hx:l[i]?=some l[i]:=List.getElem?_eq_getElem hlt
  have hd:=List.drop_eq_getElem_cons hlt
  generalize l[i]=x at hx hd
  have k:=h i x hx
  rw [hd,List.find?_cons] at hP
  cases hok:ok x with
  |true=>
   rw [hok] at k hP
   exact .inl ⟨_,k,⟨i+1,hlt,rfl,by simpa using hP⟩,by simp;omega⟩
  |false=>
   rw [hok] at k hP
   right
   rw [k,hP];rfl
 ·have:i=l.length:=by omega
  subst this
  rw [List.drop_length] at hP
  right
  rw [h0,hP];rfl
theorem jI {α:Type} [DecidableEq α] (a b:List α) (hl:a.length=b.length) {S:Int→Option (Int⊕Bool)} (h:∀(i:Nat) (x y:α),a[i]?=some x→b[i]?=some y→S (i:Int)=some (if x=y then .inl ((i+1:Nat):Int) else .inr false)) (h0:S (a.length:Int)=some (.inr true)) (n:Nat) (hn:a.length<n):A7 S n 0=some (decide (a=b)):=by
 refine Hr (fun x=>∃i:Nat,i≤a.length∧x=(i:Int)∧a.take i=b.take i) _ (fun x=>a.length-x.toNat) ?_ n _ ⟨0,Nat.zero_le _,rfl,rfl⟩ (by simpa using hn)
 rintro _ ⟨i,hi,rfl,hP⟩
 rcases Nat.lt_or_ge i a.length with hlt|hge
 ·have hx:=List.getElem?_eq_getElem hlt
  have hy:=List.getElem?_eq_getElem (l:=b) (i:=i) (by omega)
  have ha:=List.take_succ_eq_append_getElem hlt
  have hb:=List.take_succ_eq_append_getElem (l:=b) (i:=i) (by omega)
  have k:=h i _ _ hx hy
  by_cases e:a[i]=b[i]
  ·rw [if_pos e] at k
   exact .inl ⟨_,k,⟨i+1,hlt,rfl,by rw [ha,hb,hP,e]⟩,by simp;omega⟩
  ·rw [if_neg e] at k
   right
   rw [k,decide_eq_false]
   intro q
   subst q
   exact e rfl
 ·have:i=a.length:=by omega
  subst this
  rw [List.take_length,hl,List.take_length] at hP
  right
  rw [h0,decide_eq_true hP]
end Go.Proofs.YtmechmjjcgdpdaaGreatDoor
