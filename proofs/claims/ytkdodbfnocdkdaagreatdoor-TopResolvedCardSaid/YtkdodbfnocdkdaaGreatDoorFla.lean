/- A part. -/
import Derived.Test.YtkdodbfnocdkdaaGreatDoorPL
set_option linter.unusedVariables false
set_option linter.unusedSimpArgs false
namespace Go.Proofs.YtkdodbfnocdkdaaGreatDoor
def Cu (w:Nat) (k:Int):Prop:=w<18446744073709551616∧((w % 9223372036854775808:Nat):Int)≤(k+1023)*4503599627370496∧-1022≤k∧k≤1023
theorem Cu.up {w:Nat} {k k':Int} (h:Cu w k) (h1:k≤k') (h2:k'≤1023):Cu w k':=by
 obtain ⟨a,b,c,d⟩:=h
 exact ⟨a,by omega,by omega,h2⟩
theorem Jb (m:Nat):m<2 ^ (m.log2+1):=Nat.lt_log2_self
theorem G6 {m e:Nat} (hm:m≠0) (h:m<2 ^ (e+1)):m.log2≤e:=by
 have:=(Nat.log2_lt hm).2 h
 omega
theorem Gr {w:Nat} {k:Int} (h:Cu w k):∃(s:Bool) (m i:Nat),FloatKind.f64.decode w=.number s m ((i:Int)-1074)∧(m≠0→(i:Int)-1074+m.log2≤k)∧(w<9223372036854775808→s=false)∧m<9007199254740992:=by
 obtain ⟨h1,h2,h3,h4⟩:=h
 have hsw:Ieee.double.signWeight=9223372036854775808:=rfl
 have hb:Ieee.double.binade=4503599627370496:=rfl
 have hi:Ieee.double.infRung=9218868437227405312:=rfl
 have hl:Ieee.double.leastPlace= -1074:=rfl
 have hs:w<9223372036854775808→(w / 9223372036854775808 % 2==1)=false:=fun hw=>by
  rw [show w / 9223372036854775808=0 by omega];rfl
 show ∃(s:Bool) (m i:Nat),Ieee.Format.read Ieee.double w=_∧_
 unfold Ieee.Format.read
 rw [hsw,hb,hi,hl]
 generalize hr:w % 9223372036854775808=r at*
 by_cases c1:r<4503599627370496
 ·rw [if_pos c1]
  refine ⟨_,r,0,rfl,fun h0=> ?_,hs,by omega⟩
  have:=G6 (e:=51) h0 c1
  omega
 ·rw [if_neg c1,if_pos (by omega)]
  refine ⟨_,4503599627370496+r % 4503599627370496,r / 4503599627370496-1,?_,fun h0=> ?_,hs,by omega⟩
  ·congr 1
  ·have:=G6 (e:=52) h0 (by omega)
   by_cases c2:r / 4503599627370496≤(k+1022).toNat
   ·omega
   ·have:=G6 (m:=4503599627370496+r % 4503599627370496) (e:=52) h0 (by omega)
    omega
theorem Ai4 (neg:Bool) (n drop:Nat):(Ieee.Toward.even.cut neg n drop)≤n / 2 ^ min drop (n.log2+2)+1:=by
 unfold Ieee.Toward.cut
 rw [Nat.one_shiftLeft]
 show n / 2 ^ min drop (n.log2+2)+Bool.toNat _≤_
 have:∀b:Bool,b.toNat≤1:=fun b=>by cases b<;>decide
 exact Nat.add_le_add_left (this _) _
theorem V1 (neg:Bool) (n:Nat):(Ieee.Toward.even.cut neg n 0)=n:=by
 unfold Ieee.Toward.cut
 rw [Nat.one_shiftLeft,Nat.zero_min,Nat.pow_zero]
 show n / 1+Bool.toNat (decide (1<2*(n % 1))||(1==2*(n % 1) && n / 1 % 2==1))=n
 rw [Nat.mod_one,Nat.div_one]
 rfl
theorem Gl {a b:Nat} (h:a≤b):2 ^ a≤2 ^ b:=Nat.pow_le_pow_right (by decide) h
theorem K4 (neg:Bool) {mag:Nat} {place k:Int} (h:mag≠0→place+mag.log2<k) (k1: -1022≤k) (k2:k≤1023):Cu (Ieee.Format.nearest Ieee.double neg mag place) k∧(neg=false→Ieee.Format.nearest Ieee.double neg mag place<9223372036854775808):=by
 have hsw:Ieee.double.signWeight=9223372036854775808:=rfl
 have hb:Ieee.double.binade=4503599627370496:=rfl
 have hi:Ieee.double.infRung=9218868437227405312:=rfl
 have hl:Ieee.double.leastPlace= -1074:=rfl
 have hf:(Ieee.double.fractionBits:Int)=52:=rfl
 have word:∀r:Nat,(r:Int)≤(k+1023)*4503599627370496→Cu (Ieee.Format.word Ieee.double neg r) k∧(neg=false→Ieee.Format.word Ieee.double neg r<9223372036854775808):=fun r hr=>by
  unfold Ieee.Format.word
  rw [hsw]
  cases neg with
  |true=>rw [if_pos rfl];exact ⟨⟨by omega,by omega,k1,k2⟩,fun q=>by cases q⟩
  |false=>rw [if_neg (by decide)];exact ⟨⟨by omega,by omega,k1,k2⟩,fun _=>by omega⟩
 refine (?_:∀E,Ieee.Format.nearest Ieee.double neg mag place=E→Cu E k∧(neg=false→E<9223372036854775808)) _ rfl
 intro E hE
 unfold Ieee.Format.nearest at hE
 by_cases h0:mag=0
 ·rw [if_pos h0] at hE
  rw [← hE]
  exact word 0 (by omega)
 rw [if_neg h0,hb,hi,hl,hf] at hE
 have he:=h h0
 have hlt:=Jb mag
 obtain ⟨L,hL⟩:∃L:Nat,mag.log2=L:=⟨_,rfl⟩
 rw [hL] at he hlt hE
 have hE:Ieee.Format.word Ieee.double neg (min ((max (place+(L:Int)-52) (-1074) - -1074).toNat*4503599627370496+Ieee.Toward.even.cut neg (mag<<<(place-max (place+(L:Int)-52) (-1074)).toNat) (max (place+(L:Int)-52) (-1074)-place).toNat) 9218868437227405312)=E:=hE
 obtain ⟨last,hlast⟩:∃last:Int,max (place+(L:Int)-52) (-1074)=last:=⟨_,rfl⟩
 rw [hlast] at hE
 have kept:∀D:Nat,(place+L-last+1≤D)→0≤(D:Int)→Ieee.Toward.even.cut neg (mag<<<(place-last).toNat) (last-place).toNat≤2 ^ D:=by
  intro D hD _
  by_cases c:last≤place
  ·rw [show (last-place).toNat=0 by omega,V1,Nat.shiftLeft_eq]
   have e1:mag*2 ^ (place-last).toNat≤2 ^ (L+1)*2 ^ (place-last).toNat:=Nat.mul_le_mul_right _ (by omega)
   rw [← Nat.pow_add] at e1
   exact Nat.le_trans e1 (Gl (by omega))
  ·have e1:=Ai4 neg (mag<<<(place-last).toNat) (last-place).toNat
   rw [show (place-last).toNat=0 by omega,Nat.shiftLeft_zero,hL] at e1
   rw [show (place-last).toNat=0 by omega,Nat.shiftLeft_zero]
   have p0:0<2 ^ D:=Nat.pow_pos (by decide)
   by_cases c2:(last-place).toNat≤L
   ·rw [show min (last-place).toNat (L+2)=(last-place).toNat by omega] at e1
    have e2:mag / 2 ^ (last-place).toNat<2 ^ (L+1-(last-place).toNat):=by
     rw [Nat.div_lt_iff_lt_mul (Nat.pow_pos (by decide)),← Nat.pow_add]
     rw [show L+1-(last-place).toNat+(last-place).toNat=L+1 by omega]
     exact hlt
    have e3:=Gl (show L+1-(last-place).toNat≤D by omega)
    omega
   ·have e2:mag / 2 ^ min (last-place).toNat (L+2)=0:=by
     refine Nat.div_eq_of_lt (Nat.lt_of_lt_of_le hlt (Gl (by omega)))
    rw [e2] at e1
    omega
 have q:∃K:Nat,Ieee.Toward.even.cut neg (mag<<<(place-last).toNat) (last-place).toNat=K∧(K:Int)≤(if place+(L:Int)-52≥-1074 then 9007199254740992 else 4503599627370496):=by
  refine ⟨_,rfl,?_⟩
  by_cases c:place+(L:Int)-52≥-1074
  ·rw [if_pos c]
   have q:=kept 53 (by omega) (by decide)
   exact Int.ofNat_le.2 q
  ·rw [if_neg c]
   have q:=kept 52 (by omega) (by decide)
   exact Int.ofNat_le.2 q
 obtain ⟨K,hK,hKb⟩:=q
 rw [hK] at hE
 clear kept hK hlt
 rw [← hE]
 refine word _ ?_
 clear word
 obtain ⟨A,hA⟩:∃A:Nat,(last - -1074).toNat=A:=⟨_,rfl⟩
 rw [hA]
 have hA2:(A:Int)=last+1074:=by omega
 clear hA
 refine Int.le_trans (Int.ofNat_le.2 (Nat.min_le_left _ _)) ?_
 have hc:((A*4503599627370496+K:Nat):Int)=(A:Int)*4503599627370496+K:=by rw [Int.natCast_add,Int.natCast_mul];rfl
 rw [hc,hA2]
 clear hc hA2 hE hb hi hl hf hsw
 by_cases c:place+(L:Int)-52≥-1074
 ·rw [if_pos c] at hKb
  have e1:last=place+(L:Int)-52:=by rw [← hlast];exact Int.max_eq_left c
  clear hlast
  subst e1
  omega
 ·rw [if_neg c] at hKb
  have e1:last= -1074:=by rw [← hlast];exact Int.max_eq_right (by omega)
  clear hlast
  subst e1
  omega
theorem rO {m n:Nat} (hm:m≠0) (hn:n≠0):(m*n).log2≤m.log2+n.log2+1:=by
 refine G6 (Nat.mul_ne_zero hm hn) ?_
 have h1:=Jb m
 have h2:=Jb n
 have:m*n<2 ^ (m.log2+1)*2 ^ (n.log2+1):=Nat.mul_lt_mul'' h1 h2
 rw [← Nat.pow_add] at this
 exact Nat.lt_of_lt_of_le this (Gl (by omega))
theorem qO {m i:Nat} (hm:m≠0):(m<<<i).log2≤m.log2+i:=by
 rw [Nat.shiftLeft_eq]
 refine G6 (Nat.mul_ne_zero hm (by have:=Nat.pow_pos (n:=i) (show 0<2 by decide);omega)) ?_
 have h1:=Jb m
 have:m*2 ^ i<2 ^ (m.log2+1)*2 ^ i:=Nat.mul_lt_mul_of_pos_right h1 (Nat.pow_pos (by decide))
 rw [← Nat.pow_add] at this
 exact Nat.lt_of_lt_of_le this (Gl (by omega))
theorem Z4 {x y:Nat} {a b:Int} (hx:Cu x a) (hy:Cu y b) (k1: -1022≤a+b+2) (k2:a+b+2≤1023):∃r,Cp x y=some r∧Cu r (a+b+2)∧(x<9223372036854775808→y<9223372036854775808→r<9223372036854775808):=by
 obtain ⟨s,m,i,h1,h2,h3,-⟩:=Gr hx
 obtain ⟨t,n,j,g1,g2,g3,-⟩:=Gr hy
 have h1:Ieee.Format.read Ieee.double x=_:=h1
 have g1:Ieee.Format.read Ieee.double y=_:=g1
 unfold Cp
 show ∃r,(((Ieee.Format.read Ieee.double x).product (Ieee.Format.read Ieee.double y)).map (Ieee.Format.write Ieee.double))=some r∧_
 rw [h1,g1]
 obtain ⟨q1,q2⟩:=K4 (s ^^ t) (mag:=m*n) (place:=((i:Int)-1074)+((j:Int)-1074)) (k:=a+b+2) (fun h0=>by
  have hm:m≠0:=fun e=>h0 (by rw [e,Nat.zero_mul])
  have hn:n≠0:=fun e=>h0 (by rw [e,Nat.mul_zero])
  have:=rO hm hn
  have:=h2 hm
  have:=g2 hn
  omega) k1 k2
 exact ⟨_,rfl,q1,fun u v=>q2 (by rw [h3 u,g3 v];rfl)⟩
end Go.Proofs.YtkdodbfnocdkdaaGreatDoor
set_option linter.unusedVariables false
set_option linter.unusedSimpArgs false
namespace Go.Proofs.YtkdodbfnocdkdaaGreatDoor
theorem Ik (s:Bool) (m u:Nat):(Ieee.signed s m u).natAbs=m<<<u:=by
 unfold Ieee.signed
 generalize m<<<u=X
 cases s with
 |true=>rw [if_pos rfl];omega
 |false=>rw [if_neg (by decide)];omega
theorem Zi {m i:Nat} {a base:Int} (h2:m≠0→(i:Int)-1074+m.log2≤a) (hb:base≤(i:Int)-1074) {E:Nat} (hE:a-base+1≤E):m<<<((i:Int)-1074-base).toNat<2 ^ E:=by
 by_cases hm:m=0
 ·rw [hm,Nat.zero_shiftLeft];exact Nat.pow_pos (by decide)
 ·rw [Nat.shiftLeft_eq]
  have h1:=Jb m
  have h3:=h2 hm
  have:m*2 ^ ((i:Int)-1074-base).toNat<2 ^ (m.log2+1)*2 ^ ((i:Int)-1074-base).toNat:=Nat.mul_lt_mul_of_pos_right h1 (Nat.pow_pos (by decide))
  rw [← Nat.pow_add] at this
  exact Nat.lt_of_lt_of_le this (Gl (by omega))
theorem eJ {s t:Bool} {m n i j:Nat} {a b:Int} (h2:m≠0→(i:Int)-1074+m.log2≤a) (g2:n≠0→(j:Int)-1074+n.log2≤b) (k1: -1022≤max a b+2) (k2:max a b+2≤1023):∃r,(Ieee.Datum.sum (.number s m ((i:Int)-1074)) (.number t n ((j:Int)-1074))).map (Ieee.Format.write Ieee.double)=some r∧Cu r (max a b+2)∧(s=false→t=false→r<9223372036854775808):=by
 obtain ⟨base,hbase⟩:∃base:Int,min ((i:Int)-1074) ((j:Int)-1074)=base:=⟨_,rfl⟩
 obtain ⟨Pe,htot⟩:∃Pe:Int,Ieee.signed s m ((i:Int)-1074-base).toNat+Ieee.signed t n ((j:Int)-1074-base).toNat=Pe:=⟨_,rfl⟩
 have hval:(Ieee.Datum.sum (.number s m ((i:Int)-1074)) (.number t n ((j:Int)-1074))).map (Ieee.Format.write Ieee.double)=some (Ieee.Format.nearest Ieee.double (if Pe=0 then s && t else decide (Pe<0)) Pe.natAbs base):=by
  subst hbase
  subst htot
  rfl
 obtain ⟨q1,q2⟩:=K4 (if Pe=0 then s && t else decide (Pe<0)) (mag:=Pe.natAbs) (place:=base) (k:=max a b+2) (fun h0=>by
  obtain ⟨E,hE⟩:∃E:Nat,(E:Int)=max (max a b-base+1) 0:=⟨(max (max a b-base+1) 0).toNat,by omega⟩
  have e1:=Zi (base:=base) h2 (by omega) (E:=E) (by omega)
  have e2:=Zi (base:=base) g2 (by omega) (E:=E) (by omega)
  have e3:=Ik s m ((i:Int)-1074-base).toNat
  have e4:=Ik t n ((j:Int)-1074-base).toNat
  have e5:Pe.natAbs<2 ^ (E+1):=by
   rw [Nat.pow_succ,← htot]
   have:=Int.natAbs_add_le (Ieee.signed s m ((i:Int)-1074-base).toNat) (Ieee.signed t n ((j:Int)-1074-base).toNat)
   omega
  have e6:=G6 h0 e5
  by_cases hp:max a b-base+1≥0
  ·omega
  ·exfalso
   have z1:m=0:=Decidable.byContradiction fun q=>by have:=h2 q;omega
   have z2:n=0:=Decidable.byContradiction fun q=>by have:=g2 q;omega
   subst z1
   subst z2
   rw [Nat.zero_shiftLeft] at e3 e4
   clear e1 e2 e5 e6
   omega) k1 k2
 refine ⟨_,hval,q1,fun hs ht=>q2 ?_⟩
 subst hs
 subst ht
 by_cases h0:Pe=0
 ·rw [if_pos h0];rfl
 ·rw [if_neg h0]
  refine decide_eq_false ?_
  rw [← htot]
  unfold Ieee.signed
  generalize m<<<((i:Int)-1074-base).toNat=X
  generalize n<<<((j:Int)-1074-base).toNat=Y
  rw [if_neg (by decide),if_neg (by decide)]
  omega
theorem Abo {x y:Nat} {a b:Int} (hx:Cu x a) (hy:Cu y b) (k2:max a b+2≤1023):∃r,D6 x y=some r∧Cu r (max a b+2)∧(x<9223372036854775808→y<9223372036854775808→r<9223372036854775808):=by
 have hk:=hx.2.2.1
 obtain ⟨s,m,i,h1,h2,h3,-⟩:=Gr hx
 obtain ⟨t,n,j,g1,g2,g3,-⟩:=Gr hy
 have h1:Ieee.Format.read Ieee.double x=_:=h1
 have g1:Ieee.Format.read Ieee.double y=_:=g1
 unfold D6
 show ∃r,((Ieee.Format.read Ieee.double x).sum (Ieee.Format.read Ieee.double y)).map (Ieee.Format.write Ieee.double)=some r∧_
 rw [h1,g1]
 obtain ⟨r,q1,q2,q3⟩:=eJ (s:=s) (t:=t) h2 g2 (by omega) k2
 exact ⟨r,q1,q2,fun u v=>q3 (h3 u) (g3 v)⟩
theorem Ad6 {x y:Nat} {a b:Int} (hx:Cu x a) (hy:Cu y b) (k2:max a b+2≤1023):∃r,F1 x y=some r∧Cu r (max a b+2):=by
 have hk:=hx.2.2.1
 obtain ⟨s,m,i,h1,h2,h3,-⟩:=Gr hx
 obtain ⟨t,n,j,g1,g2,g3,-⟩:=Gr hy
 have h1:Ieee.Format.read Ieee.double x=_:=h1
 have g1:Ieee.Format.read Ieee.double y=_:=g1
 unfold F1
 show ∃r,((Ieee.Format.read Ieee.double x).sum (Ieee.Format.read Ieee.double y).opposite).map (Ieee.Format.write Ieee.double)=some r∧_
 rw [h1,g1]
 obtain ⟨r,q1,q2,-⟩:=eJ (s:=s) (t:= !t) h2 g2 (by omega) k2
 exact ⟨r,q1,q2⟩
theorem aI {z:Int} {e:Nat} (h:z.natAbs<2 ^ e) (he:e≤1023):Cu (Kp z) e∧(0≤z→Kp z<9223372036854775808):=by
 unfold Kp
 show Cu (Ieee.Format.nearest Ieee.double (decide (z<0)) z.natAbs 0) e∧(0≤z→Ieee.Format.nearest Ieee.double (decide (z<0)) z.natAbs 0<_)
 obtain ⟨q1,q2⟩:=K4 (decide (z<0)) (mag:=z.natAbs) (place:=0) (k:=e) (fun h0=>by
  have:=(Nat.log2_lt h0).2 h
  omega) (by omega) (by omega)
 exact ⟨q1,fun hz=>q2 (decide_eq_false (by omega))⟩
theorem Ad1 (neg:Bool) (n drop:Nat):(Ieee.Toward.zero.cut neg n drop)=n / 2 ^ min drop (n.log2+2):=by
 unfold Ieee.Toward.cut
 rw [Nat.one_shiftLeft]
 rfl
theorem lR {x:Nat} {a:Int} {e:Nat} (hx:Cu x a) (ha:a≤e) (k:IntKind) (hk:(k=.u64∧x<9223372036854775808)∨k=.i64) (he:e≤61):∃z,Tu k x=some z∧z.natAbs<2 ^ (e+1)∧(x<9223372036854775808→0≤z):=by
 obtain ⟨s,m,i,h1,h2,h3,-⟩:=Gr hx
 unfold Tu
 rw [h1]
 obtain ⟨c,hc⟩:∃c:Nat,Ieee.Toward.zero.cut s (m<<<((i:Int)-1074).toNat) (-((i:Int)-1074)).toNat=c:=⟨_,rfl⟩
 have hi:(Ieee.Datum.toInt .zero (.number s m ((i:Int)-1074)))=some (Ieee.signed s c 0):=by
  rw [← hc];rfl
 have hcb:c<2 ^ (e+1):=by
  rw [← hc,Ad1]
  by_cases hm:m=0
  ·rw [hm,Nat.zero_shiftLeft,Nat.zero_div];exact Nat.pow_pos (by decide)
  have h4:=h2 hm
  by_cases c1:0≤(i:Int)-1074
  ·rw [show (-((i:Int)-1074)).toNat=0 by omega,Nat.zero_min,Nat.pow_zero,Nat.div_one,Nat.shiftLeft_eq]
   have h5:=Jb m
   have:m*2 ^ ((i:Int)-1074).toNat<2 ^ (m.log2+1)*2 ^ ((i:Int)-1074).toNat:=Nat.mul_lt_mul_of_pos_right h5 (Nat.pow_pos (by decide))
   rw [← Nat.pow_add] at this
   exact Nat.lt_of_lt_of_le this (Gl (by omega))
  ·rw [show ((i:Int)-1074).toNat=0 by omega,Nat.shiftLeft_zero]
   have h5:=Jb m
   rw [Nat.div_lt_iff_lt_mul (Nat.pow_pos (by decide)),← Nat.pow_add]
   refine Nat.lt_of_lt_of_le h5 (Gl ?_)
   omega
 have hs:=Ik s c 0
 rw [Nat.shiftLeft_zero] at hs
 have hp:(2:Nat) ^ (e+1)≤2 ^ 62:=Gl (by omega)
 have hp2:(2:Nat) ^ 62=4611686018427387904:=by decide
 rw [hp2] at hp
 show ∃z,(match Ieee.Datum.toInt .zero (.number s m ((i:Int)-1074)) with|some n=>if k.min≤n∧n≤k.max then some n else none|none=>none)=some z∧_
 rw [hi]
 obtain ⟨z,hz⟩:∃z:Int,Ieee.signed s c 0=z:=⟨_,rfl⟩
 rw [hz] at hs ⊢
 have hpos:x<9223372036854775808→0≤z:=fun hx0=>by
  rw [← hz,h3 hx0]
  unfold Ieee.signed
  rw [if_neg (by decide)]
  omega
 refine ⟨z,?_,by omega,hpos⟩
 show (if k.min≤z∧z≤k.max then some z else none)=some z
 rcases hk with ⟨rfl,hx0⟩|rfl
 ·have e1:IntKind.u64.min=0:=by decide
  have e2:IntKind.u64.max=18446744073709551615:=by decide
  rw [e1,e2,if_pos ⟨hpos hx0,by omega⟩]
 ·have e1:IntKind.i64.min= -9223372036854775808:=by decide
  have e2:IntKind.i64.max=9223372036854775807:=by decide
  rw [e1,e2,if_pos ⟨by omega,by omega⟩]
end Go.Proofs.YtkdodbfnocdkdaaGreatDoor
set_option linter.unusedVariables false
set_option linter.unusedSimpArgs false
namespace Go.Proofs.YtkdodbfnocdkdaaGreatDoor
theorem Oj {x y:Nat} {a lo:Int} {t:Bool} {n j:Nat} (hx:Cu x a) (hy:FloatKind.f64.decode y=.number t n ((j:Int)-1074)) (hn:n≠0) (hlo:lo≤(j:Int)-1074+n.log2) (k1: -1022≤a-lo+1) (k2:a-lo+1≤1023):∃r,Jy x y=some r∧Cu r (a-lo+1)∧(x<9223372036854775808→t=false→r<9223372036854775808):=by
 obtain ⟨s,m,i,h1,h2,h3,-⟩:=Gr hx
 have h1:Ieee.Format.read Ieee.double x=_:=h1
 have hy:Ieee.Format.read Ieee.double y=_:=hy
 unfold Jy
 show ∃r,((Ieee.Format.read Ieee.double x).quotient 54 (Ieee.Format.read Ieee.double y)).map (Ieee.Format.write Ieee.double)=some r∧_
 rw [h1,hy]
 obtain ⟨more,hmore⟩:∃more:Nat,54+n.log2-m.log2=more:=⟨_,rfl⟩
 obtain ⟨mag,hmag⟩:∃mag:Nat,2*((m<<<more) / n)+((m<<<more) % n !=0).toNat=mag:=⟨_,rfl⟩
 have hval:(Ieee.Datum.quotient 54 (.number s m ((i:Int)-1074)) (.number t n ((j:Int)-1074))).map (Ieee.Format.write Ieee.double)=some (Ieee.Format.nearest Ieee.double (s ^^ t) mag (((i:Int)-1074)-((j:Int)-1074)-more-1)):=by
  unfold Ieee.Datum.quotient
  simp only [hn,if_false]
  rw [hmore,hmag]
  rfl
 obtain ⟨q1,q2⟩:=K4 (s ^^ t) (mag:=mag) (place:=((i:Int)-1074)-((j:Int)-1074)-more-1) (k:=a-lo+1) (fun h0=>by
  have hb1:((m<<<more) % n !=0).toNat≤1:=by cases ((m<<<more) % n !=0)<;>decide
  have hm:m≠0:=fun e=>by
   rw [e,Nat.zero_shiftLeft,Nat.zero_div,Nat.zero_mod] at hmag
   exact h0 (hmag.symm.trans (by rfl))
  have h4:=h2 hm
  by_cases hq:(m<<<more) / n=0
  ·rw [hq] at hmag
   have:mag.log2≤0:=G6 h0 (by show mag<2;omega)
   omega
  ·have e1:(m<<<more).log2≤m.log2+more:=qO hm
   have e2:(m<<<more) / n<2 ^ (m.log2+more-n.log2+1):=by
    rw [Nat.div_lt_iff_lt_mul (by omega)]
    have hle:2 ^ n.log2≤n:=Nat.log2_self_le hn
    have hlt:=Jb (m<<<more)
    refine Nat.lt_of_lt_of_le (Nat.lt_of_lt_of_le hlt (Gl (show (m<<<more).log2+1≤(m.log2+more-n.log2+1)+n.log2 by omega))) ?_
    rw [Nat.pow_add]
    exact Nat.mul_le_mul_left _ hle
   have e3:n.log2≤m.log2+more:=by omega
   have e4:mag<2 ^ (m.log2+more-n.log2+1+1):=by
    rw [Nat.pow_succ]
    generalize 2 ^ (m.log2+more-n.log2+1)=Z at*
    generalize (m<<<more) / n=Q at*
    omega
   have e5:=G6 h0 e4
   omega) k1 k2
 exact ⟨_,hval,q1,fun u v=>q2 (by rw [h3 u,v];rfl)⟩
theorem L5 {x y:Nat} {s t:Bool} {m n:Nat} {i j:Int} (hx:FloatKind.f64.decode x=.number s m i) (hy:FloatKind.f64.decode y=.number t n j):P6 x y=some (compare (Ieee.signed s m (i-min i j).toNat) (Ieee.signed t n (j-min i j).toNat)):=by
 unfold P6
 have hx:Ieee.Format.read Ieee.double x=_:=hx
 have hy:Ieee.Format.read Ieee.double y=_:=hy
 show (Ieee.Format.read Ieee.double x).order (Ieee.Format.read Ieee.double y)=_
 rw [hx,hy];rfl
theorem cM {x:Nat} {a:Int} (h:Cu x a):P6 x x=some .eq:=by
 obtain ⟨s,m,i,h1,-⟩:=Gr h
 rw [L5 h1 h1]
 congr 1
 exact Int.compare_eq_eq.2 rfl
theorem yY {x:Nat} {a:Int} (h:Cu x a) (hx:x<9223372036854775808):P6 x 0≠some .lt:=by
 obtain ⟨s,m,i,h1,h2,h3,-⟩:=Gr h
 rw [L5 h1 (show FloatKind.f64.decode 0=.number false 0 (-1074) from by decide+kernel),h3 hx]
 intro e
 have:=Int.compare_eq_lt.1 (Option.some.inj e)
 unfold Ieee.signed at this
 rw [if_neg (by decide),if_neg (by decide),Nat.zero_shiftLeft] at this
 generalize m<<<((i:Int)-1074-min ((i:Int)-1074) (-1074)).toNat=X at this
 omega
theorem rU {x y:Nat} {a:Int} (h:Cu x a) {n j:Nat} (hy:FloatKind.f64.decode y=.number false n ((j:Int)-1074)) (hn:n≠0) (hlo:a<(j:Int)-1074+n.log2):P6 x y=some .lt:=by
 obtain ⟨s,m,i,h1,h2,h3,-⟩:=Gr h
 rw [L5 h1 hy]
 congr 1
 refine Int.compare_eq_lt.2 ?_
 obtain ⟨base,hb⟩:∃base:Int,min ((i:Int)-1074) ((j:Int)-1074)=base:=⟨_,rfl⟩
 rw [hb]
 have e1:=Ik s m ((i:Int)-1074-base).toNat
 have e2:Ieee.signed false n ((j:Int)-1074-base).toNat=((n<<<((j:Int)-1074-base).toNat:Nat):Int):=by
  unfold Ieee.signed;rw [if_neg (by decide)]
 rw [e2]
 have e3:m<<<((i:Int)-1074-base).toNat<n<<<((j:Int)-1074-base).toNat:=by
  have p:0<n<<<((j:Int)-1074-base).toNat:=by
   rw [Nat.shiftLeft_eq]
   exact Nat.mul_pos (by omega) (Nat.pow_pos (by decide))
  by_cases hm:m=0
  ·rw [hm,Nat.zero_shiftLeft];exact p
  ·have h4:=h2 hm
   obtain ⟨E,hE⟩:∃E:Nat,(E:Int)=a-base+1:=⟨(a-base+1).toNat,by omega⟩
   have f1:=Zi (base:=base) h2 (by omega) (E:=E) (by omega)
   have f2:2 ^ E≤n<<<((j:Int)-1074-base).toNat:=by
    rw [Nat.shiftLeft_eq]
    have hle:2 ^ n.log2≤n:=Nat.log2_self_le hn
    refine Nat.le_trans (Gl (show E≤n.log2+((j:Int)-1074-base).toNat by omega)) ?_
    rw [Nat.pow_add]
    exact Nat.mul_le_mul_right _ hle
   omega
 generalize m<<<((i:Int)-1074-base).toNat=X at*
 generalize n<<<((j:Int)-1074-base).toNat=Y at*
 omega
theorem Vo {X Y:Nat} (hX:X<18446744073709551616) (hY:Y<18446744073709551616):E6 .u64 (X:Int) (Y:Int)=((X &&& Y:Nat):Int):=by
 unfold E6
 have e:(BitVec.ofInt (IntKind.bits .u64) (X:Int) &&& BitVec.ofInt (IntKind.bits .u64) (Y:Int)).toNat=X &&& Y:=by
  show (BitVec.ofInt 64 (X:Int) &&& BitVec.ofInt 64 (Y:Int)).toNat=_
  rw [BitVec.toNat_and,BitVec.ofInt_natCast,BitVec.ofInt_natCast,BitVec.toNat_ofNat,BitVec.toNat_ofNat,Nat.mod_eq_of_lt (show X<2 ^ 64 from hX),Nat.mod_eq_of_lt (show Y<2 ^ 64 from hY)]
 rw [e]
 have:X &&& Y≤X:=Nat.and_le_left
 show ((X &&& Y:Nat):Int) % (2 ^ 64:Int)=_
 omega
theorem mK {X Y:Nat} (hX:X<18446744073709551616) (hY:Y<18446744073709551616):bOr .u64 (X:Int) (Y:Int)=((X|||Y:Nat):Int):=by
 unfold bOr
 have e:(BitVec.ofInt (IntKind.bits .u64) (X:Int)|||BitVec.ofInt (IntKind.bits .u64) (Y:Int)).toNat=X|||Y:=by
  show (BitVec.ofInt 64 (X:Int)|||BitVec.ofInt 64 (Y:Int)).toNat=_
  rw [BitVec.toNat_or,BitVec.ofInt_natCast,BitVec.ofInt_natCast,BitVec.toNat_ofNat,BitVec.toNat_ofNat,Nat.mod_eq_of_lt (show X<2 ^ 64 from hX),Nat.mod_eq_of_lt (show Y<2 ^ 64 from hY)]
 rw [e]
 have:X|||Y<2 ^ 64:=Nat.or_lt_two_pow hX hY
 show ((X|||Y:Nat):Int) % (2 ^ 64:Int)=_
 omega
theorem R6 {X Y:Nat} (hX:X<18446744073709551616) (hY:Y<18446744073709551616):Ho .u64 (X:Int) (Y:Int)=((X &&& (18446744073709551615-Y):Nat):Int):=by
 unfold Ho
 have e:(BitVec.ofInt (IntKind.bits .u64) (X:Int) &&& ~~~(BitVec.ofInt (IntKind.bits .u64) (Y:Int))).toNat=X &&& (18446744073709551615-Y):=by
  show (BitVec.ofInt 64 (X:Int) &&& ~~~(BitVec.ofInt 64 (Y:Int))).toNat=_
  rw [BitVec.toNat_and,BitVec.toNat_not,BitVec.ofInt_natCast,BitVec.ofInt_natCast,BitVec.toNat_ofNat,BitVec.toNat_ofNat,Nat.mod_eq_of_lt (show X<2 ^ 64 from hX),Nat.mod_eq_of_lt (show Y<2 ^ 64 from hY)]
 rw [e]
 have:X &&& (18446744073709551615-Y)≤X:=Nat.and_le_left
 show ((X &&& (18446744073709551615-Y):Nat):Int) % (2 ^ 64:Int)=_
 omega
theorem T6 {x:Nat} {a:Int} (h:Cu x a):Cu (I0 x) a:=by
 obtain ⟨h1,h2,h3,h4⟩:=h
 have e:I0 x=x ^^^ 2 ^ 63:=rfl
 have m:(x ^^^ 2 ^ 63) % 2 ^ 63=x % 2 ^ 63:=by
  rw [Nat.xor_mod_two_pow,Nat.mod_self,Nat.xor_zero]
 have l:x ^^^ 2 ^ 63<2 ^ 64:=Nat.xor_lt_two_pow h1 (by decide)
 unfold Cu
 rw [e]
 refine ⟨l,?_,h3,h4⟩
 show (((x ^^^ 2 ^ 63) % 2 ^ 63:Nat):Int)≤_
 rw [m]
 exact h2
section
variable {ρ:Type} {Q:ρ→Prop} {f:Nat→Option ρ} {x y:Nat} {a b:Int}
theorem dW (hx:Cu x a) (hy:Cu y b) (k: -1022≤a+b+2∧a+b+2≤1023) (h:∀r,Cu r (a+b+2)→∃t,f r=some t∧Q t):∃t,(Cp x y).bind f=some t∧Q t:=by
 obtain ⟨r,e,hr,-⟩:=Z4 hx hy k.1 k.2
 rw [e];exact h r hr
theorem fG (hx:Cu x a) (hy:Cu y b) (k:max a b+2≤1023) (h:∀r,Cu r (max a b+2)→∃t,f r=some t∧Q t):∃t,(D6 x y).bind f=some t∧Q t:=by
 obtain ⟨r,e,hr,-⟩:=Abo hx hy k
 rw [e];exact h r hr
theorem cE (hx:Cu x a) (hy:Cu y b) (k:max a b+2≤1023) (h:∀r,Cu r (max a b+2)→∃t,f r=some t∧Q t):∃t,(F1 x y).bind f=some t∧Q t:=by
 obtain ⟨r,e,hr⟩:=Ad6 hx hy k
 rw [e];exact h r hr
theorem Se {c:Bool} {u v:Option ρ} (h1:∃t,u=some t∧Q t) (h2:∃t,v=some t∧Q t):∃t,(bif c then u else v)=some t∧Q t:=by cases c<;>assumption
theorem Na {r:Nat} {a K:Int} (h:Cu r a) (k:a≤K∧K≤1023):∃t,(some r:Option Nat)=some t∧Cu t K:=⟨r,rfl,h.up k.1 k.2⟩
end
end Go.Proofs.YtkdodbfnocdkdaaGreatDoor
