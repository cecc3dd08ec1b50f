/- Parts Fl4, At1, Fl5, At2, At3. -/
import Derived.Test.YtkdodbfnocdkdaaGreatDoorFla
import Derived.Test.YtkdodbfnocdkdaaGreatDoorX1G
import Derived.Test.YtkdodbfnocdkdaaGreatDoorSnK
import Derived.Test.YtkdodbfnocdkdaaGreatDoorMaK
set_option linter.unusedVariables false
set_option linter.unusedSimpArgs false
namespace Go.Proofs.YtkdodbfnocdkdaaGreatDoor
theorem pV {mag p q:Nat} (h0:mag≠0) (h:mag*2 ^ p≤2 ^ q):mag.log2+p<q∨(mag.log2+p=q∧mag=2 ^ mag.log2):=by
 have h1:2 ^ mag.log2≤mag:=Nat.log2_self_le h0
 have h2:2 ^ (mag.log2+p)≤2 ^ q:=by
  rw [Nat.pow_add]
  exact Nat.le_trans (Nat.mul_le_mul_right _ h1) h
 have h3:mag.log2+p≤q:=(Nat.pow_le_pow_iff_right (by decide)).1 h2
 rcases Nat.lt_or_eq_of_le h3 with k|k
 ·exact .inl k
 ·refine .inr ⟨k,Nat.le_antisymm ?_ h1⟩
  rw [← k,Nat.pow_add] at h
  exact Nat.le_of_mul_le_mul_right h (Nat.pow_pos (by decide))
theorem pR (neg:Bool) {L d:Nat} (h:d≤L):Ieee.Toward.even.cut neg (2 ^ L) d=2 ^ (L-d):=by
 unfold Ieee.Toward.cut
 rw [Nat.one_shiftLeft,Nat.log2_two_pow,show min d (L+2)=d by omega]
 have hm:2 ^ L % 2 ^ d=0:=by
  rw [show L=(L-d)+d by omega,Nat.pow_add,Nat.mul_mod_left]
 have hd:2 ^ L / 2 ^ d=2 ^ (L-d):=Nat.pow_div h (by decide)
 show 2 ^ L / 2 ^ d+Bool.toNat (decide (2 ^ d<2*(2 ^ L % 2 ^ d))||(2 ^ d==2*(2 ^ L % 2 ^ d) && 2 ^ L / 2 ^ d % 2==1))=_
 have hp:0<2 ^ d:=Nat.pow_pos (by decide)
 rw [hm,hd,decide_eq_false (by omega),show (2 ^ d==2*0)=false from beq_eq_false_iff_ne.2 (by omega)]
 rfl
theorem wH (neg:Bool) {L:Nat} {place k:Int} (h:place+L=k) (k1: -1022≤k) (k2:k≤1023):Cu (Ieee.Format.nearest Ieee.double neg (2 ^ L) place) k∧(neg=false→Ieee.Format.nearest Ieee.double neg (2 ^ L) place<9223372036854775808):=by
 have hsw:Ieee.double.signWeight=9223372036854775808:=rfl
 have hb:Ieee.double.binade=4503599627370496:=rfl
 have hi:Ieee.double.infRung=9218868437227405312:=rfl
 have hl:Ieee.double.leastPlace= -1074:=rfl
 have hf:(Ieee.double.fractionBits:Int)=52:=rfl
 have word:∀r:Nat,(r:Int)≤(k+1023)*4503599627370496→Cu (Ieee.Format.word Ieee.double neg r) k∧(neg=false→Ieee.Format.word Ieee.double neg r<9223372036854775808):=fun r hr=>by
  unfold Ieee.Format.word
  rw [hsw]
  cases neg with
  |true=>rw [if_pos rfl];exact ⟨⟨by omega,by omega,k1,k2⟩,fun q=>by cases q⟩
  |false=>rw [if_neg (by decide)];exact ⟨⟨by omega,by omega,k1,k2⟩,fun _=>by omega⟩
 have h0:2 ^ L≠0:=by have:=Nat.pow_pos (n:=L) (show 0<2 by decide);omega
 refine (?_:∀E,Ieee.Format.nearest Ieee.double neg (2 ^ L) place=E→Cu E k∧(neg=false→E<9223372036854775808)) _ rfl
 intro E hE
 unfold Ieee.Format.nearest at hE
 rw [if_neg h0,hb,hi,hl,hf,Nat.log2_two_pow] at hE
 have hlast:max (place+(L:Int)-52) (-1074)=k-52:=by omega
 have hE:Ieee.Format.word Ieee.double neg (min ((max (place+(L:Int)-52) (-1074) - -1074).toNat*4503599627370496+Ieee.Toward.even.cut neg (2 ^ L<<<(place-max (place+(L:Int)-52) (-1074)).toNat) (max (place+(L:Int)-52) (-1074)-place).toNat) 9218868437227405312)=E:=hE
 rw [hlast] at hE
 have hc:Ieee.Toward.even.cut neg (2 ^ L<<<(place-(k-52)).toNat) (k-52-place).toNat=4503599627370496:=by
  rw [Nat.shiftLeft_eq,← Nat.pow_add]
  by_cases c:k-52≤place
  ·rw [show (k-52-place).toNat=0 by omega,V1,show L+(place-(k-52)).toNat=52 by omega]
  ·rw [show (place-(k-52)).toNat=0 by omega,Nat.add_zero,pR neg (by omega),show L-(k-52-place).toNat=52 by omega]
 rw [hc] at hE
 rw [← hE]
 refine word _ (Int.le_trans (Int.ofNat_le.2 (Nat.min_le_left _ _)) ?_)
 omega
theorem P4 (neg:Bool) {mag p q:Nat} {place k:Int} (h:mag*2 ^ p≤2 ^ q) (hk:(p:Int)-place=q-k) (k1: -1022≤k) (k2:k≤1023):Cu (Ieee.Format.nearest Ieee.double neg mag place) k∧(neg=false→Ieee.Format.nearest Ieee.double neg mag place<9223372036854775808):=by
 by_cases h0:mag=0
 ·exact K4 neg (fun e=>absurd h0 e) k1 k2
 rcases pV h0 h with c|⟨c,e⟩
 ·exact K4 neg (fun _=>by omega) k1 k2
 ·obtain ⟨L,hL⟩:∃L,mag.log2=L:=⟨_,rfl⟩
  rw [hL] at c e
  rw [e]
  exact wH neg (by omega) k1 k2
theorem G1 {w:Nat} {k:Int} (h:Cu w k):∃(s:Bool) (m i:Nat),FloatKind.f64.decode w=.number s m ((i:Int)-1074)∧m*2 ^ i≤2 ^ (k+1074).toNat∧(w<9223372036854775808→s=false)∧(9223372036854775808≤w→s=true):=by
 obtain ⟨h1,h2,h3,h4⟩:=h
 have hsw:Ieee.double.signWeight=9223372036854775808:=rfl
 have hb:Ieee.double.binade=4503599627370496:=rfl
 have hi:Ieee.double.infRung=9218868437227405312:=rfl
 have hl:Ieee.double.leastPlace= -1074:=rfl
 have hs:w<9223372036854775808→(w / 9223372036854775808 % 2==1)=false:=fun hw=>by
  rw [show w / 9223372036854775808=0 by omega];rfl
 have hs':9223372036854775808≤w→(w / 9223372036854775808 % 2==1)=true:=fun hw=>by
  rw [show w / 9223372036854775808=1 by omega];rfl
 show ∃(s:Bool) (m i:Nat),Ieee.Format.read Ieee.double w=_∧_
 unfold Ieee.Format.read
 rw [hsw,hb,hi,hl]
 generalize hr:w % 9223372036854775808=r at*
 by_cases c1:r<4503599627370496
 ·rw [if_pos c1]
  refine ⟨_,r,0,rfl,?_,hs,hs'⟩
  rw [Nat.pow_zero,Nat.mul_one]
  have:=Gl (show 52≤(k+1074).toNat by omega)
  omega
 ·rw [if_neg c1,if_pos (by omega)]
  refine ⟨_,4503599627370496+r % 4503599627370496,r / 4503599627370496-1,?_,?_,hs,hs'⟩
  ·congr 1
  ·obtain ⟨e,he⟩:∃e,r / 4503599627370496-1=e:=⟨_,rfl⟩
   rw [he]
   by_cases c2:r / 4503599627370496≤(k+1022).toNat
   ·have q1:(4503599627370496+r % 4503599627370496)*2 ^ e≤2 ^ 53*2 ^ e:=Nat.mul_le_mul_right _ (by omega)
    rw [← Nat.pow_add] at q1
    exact Nat.le_trans q1 (Gl (by omega))
   ·rw [show r % 4503599627370496=0 by omega,Nat.add_zero]
    have q1:4503599627370496*2 ^ e=2 ^ (52+e):=by rw [Nat.pow_add]
    rw [q1]
    exact Gl (by omega)
theorem Fq {x y:Nat} {a b:Int} (hx:Cu x a) (hy:Cu y b) (k1: -1022≤a+b) (k2:a+b≤1023):∃r,Cp x y=some r∧Cu r (a+b)∧((x<9223372036854775808↔y<9223372036854775808)→r<9223372036854775808):=by
 have ha:=hx.2.2.1
 have hb:=hy.2.2.1
 obtain ⟨s,m,i,h1,h2,h3,h4⟩:=G1 hx
 obtain ⟨t,n,j,g1,g2,g3,g4⟩:=G1 hy
 have h1:Ieee.Format.read Ieee.double x=_:=h1
 have g1:Ieee.Format.read Ieee.double y=_:=g1
 unfold Cp
 show ∃r,(((Ieee.Format.read Ieee.double x).product (Ieee.Format.read Ieee.double y)).map (Ieee.Format.write Ieee.double))=some r∧_
 rw [h1,g1]
 have hm:m*n*2 ^ (i+j)≤2 ^ ((a+1074).toNat+(b+1074).toNat):=by
  rw [Nat.pow_add,Nat.pow_add]
  have:=Nat.mul_le_mul h2 g2
  rw [show m*n*(2 ^ i*2 ^ j)=m*2 ^ i*(n*2 ^ j) by ac_rfl]
  exact this
 obtain ⟨q1,q2⟩:=P4 (s ^^ t) (place:=((i:Int)-1074)+((j:Int)-1074)) (k:=a+b) hm (by omega) k1 k2
 refine ⟨_,rfl,q1,fun u=>q2 ?_⟩
 rcases Nat.lt_or_ge x 9223372036854775808 with c|c
 ·rw [h3 c,g3 (u.1 c)];rfl
 ·have:9223372036854775808≤y:=Nat.le_of_not_lt fun q=>by have:=u.2 q;omega
  rw [h4 c,g4 this];rfl
theorem Ajm {s t:Bool} {m n i j A B C:Nat} {base:Int} (hbase:min ((i:Int)-1074) ((j:Int)-1074)=base) (h2:m*2 ^ i≤2 ^ A) (g2:n*2 ^ j≤2 ^ B) (hA:A≤C) (hB:B≤C):(Ieee.signed s m ((i:Int)-1074-base).toNat+Ieee.signed t n ((j:Int)-1074-base).toNat).natAbs*2 ^ min i j≤2 ^ (C+1):=by
 have e3:=Ik s m ((i:Int)-1074-base).toNat
 have e4:=Ik t n ((j:Int)-1074-base).toNat
 have h:=Int.natAbs_add_le (Ieee.signed s m ((i:Int)-1074-base).toNat) (Ieee.signed t n ((j:Int)-1074-base).toNat)
 rw [e3,e4,Nat.shiftLeft_eq,Nat.shiftLeft_eq] at h
 refine Nat.le_trans (Nat.mul_le_mul_right _ h) ?_
 rw [Nat.add_mul,Nat.mul_assoc,Nat.mul_assoc,← Nat.pow_add,← Nat.pow_add,show ((i:Int)-1074-base).toNat+min i j=i by omega,show ((j:Int)-1074-base).toNat+min i j=j by omega,Nat.pow_succ]
 have:=Gl hA
 have:=Gl hB
 omega
theorem Wy {s t:Bool} {m n i j:Nat} {a b:Int} (h2:m*2 ^ i≤2 ^ (a+1074).toNat) (g2:n*2 ^ j≤2 ^ (b+1074).toNat) (ka: -1022≤a) (kb: -1022≤b) (k2:max a b+1≤1023):∃r,(Ieee.Datum.sum (.number s m ((i:Int)-1074)) (.number t n ((j:Int)-1074))).map (Ieee.Format.write Ieee.double)=some r∧Cu r (max a b+1)∧(s=false→t=false→r<9223372036854775808):=by
 obtain ⟨base,hbase⟩:∃base:Int,min ((i:Int)-1074) ((j:Int)-1074)=base:=⟨_,rfl⟩
 obtain ⟨Pe,htot⟩:∃Pe:Int,Ieee.signed s m ((i:Int)-1074-base).toNat+Ieee.signed t n ((j:Int)-1074-base).toNat=Pe:=⟨_,rfl⟩
 have hval:(Ieee.Datum.sum (.number s m ((i:Int)-1074)) (.number t n ((j:Int)-1074))).map (Ieee.Format.write Ieee.double)=some (Ieee.Format.nearest Ieee.double (if Pe=0 then s && t else decide (Pe<0)) Pe.natAbs base):=by
  subst hbase
  subst htot
  rfl
 have hm:=Ajm (s:=s) (t:=t) hbase h2 g2 (C:=(max a b+1074).toNat) (by omega) (by omega)
 rw [htot] at hm
 obtain ⟨q1,q2⟩:=P4 (if Pe=0 then s && t else decide (Pe<0)) (place:=base) (k:=max a b+1) hm (by omega) (by omega) k2
 refine ⟨_,hval,q1,fun hs ht=>q2 ?_⟩
 subst hs
 subst ht
 by_cases h0:Pe=0
 ·rw [if_pos h0];rfl
 ·rw [if_neg h0]
  refine decide_eq_false ?_
  rw [← htot]
  unfold Ieee.signed
  generalize m<<<((i:Int)-1074-base).toNat=X
  generalize n<<<((j:Int)-1074-base).toNat=Y
  rw [if_neg (by decide),if_neg (by decide)]
  omega
theorem Ez {x y:Nat} {a b:Int} (hx:Cu x a) (hy:Cu y b) (k2:max a b+1≤1023):∃r,D6 x y=some r∧Cu r (max a b+1)∧(x<9223372036854775808→y<9223372036854775808→r<9223372036854775808):=by
 have ha:=hx.2.2.1
 have hb:=hy.2.2.1
 obtain ⟨s,m,i,h1,h2,h3,-⟩:=G1 hx
 obtain ⟨t,n,j,g1,g2,g3,-⟩:=G1 hy
 have h1:Ieee.Format.read Ieee.double x=_:=h1
 have g1:Ieee.Format.read Ieee.double y=_:=g1
 unfold D6
 show ∃r,((Ieee.Format.read Ieee.double x).sum (Ieee.Format.read Ieee.double y)).map (Ieee.Format.write Ieee.double)=some r∧_
 rw [h1,g1]
 obtain ⟨r,q1,q2,q3⟩:=Wy (s:=s) (t:=t) h2 g2 ha hb k2
 exact ⟨r,q1,q2,fun u v=>q3 (h3 u) (g3 v)⟩
theorem Sg {x y:Nat} {a b:Int} (hx:Cu x a) (hy:Cu y b) (k2:max a b+1≤1023):∃r,F1 x y=some r∧Cu r (max a b+1):=by
 have ha:=hx.2.2.1
 have hb:=hy.2.2.1
 obtain ⟨s,m,i,h1,h2,h3,-⟩:=G1 hx
 obtain ⟨t,n,j,g1,g2,g3,-⟩:=G1 hy
 have h1:Ieee.Format.read Ieee.double x=_:=h1
 have g1:Ieee.Format.read Ieee.double y=_:=g1
 unfold F1
 show ∃r,((Ieee.Format.read Ieee.double x).sum (Ieee.Format.read Ieee.double y).opposite).map (Ieee.Format.write Ieee.double)=some r∧_
 rw [h1,g1]
 obtain ⟨r,q1,q2,-⟩:=Wy (s:=s) (t:= !t) h2 g2 ha hb k2
 exact ⟨r,q1,q2⟩
def pW (w:Nat) (lo:Int):Prop:=(lo+1023)*4503599627370496≤((w % 9223372036854775808:Nat):Int)∧-1022≤lo
theorem Lh {w:Nat} {k lo:Int} (h:Cu w k) (hl:pW w lo):∃(s:Bool) (m i:Nat),FloatKind.f64.decode w=.number s m ((i:Int)-1074)∧m≠0∧lo≤(i:Int)-1074+m.log2∧(w<9223372036854775808→s=false):=by
 obtain ⟨h1,h2,h3,h4⟩:=h
 obtain ⟨l1,l2⟩:=hl
 have hsw:Ieee.double.signWeight=9223372036854775808:=rfl
 have hb:Ieee.double.binade=4503599627370496:=rfl
 have hi:Ieee.double.infRung=9218868437227405312:=rfl
 have hl:Ieee.double.leastPlace= -1074:=rfl
 have hs:w<9223372036854775808→(w / 9223372036854775808 % 2==1)=false:=fun hw=>by
  rw [show w / 9223372036854775808=0 by omega];rfl
 show ∃(s:Bool) (m i:Nat),Ieee.Format.read Ieee.double w=_∧_
 unfold Ieee.Format.read
 rw [hsw,hb,hi,hl]
 generalize hr:w % 9223372036854775808=r at*
 rw [if_neg (show ¬r<4503599627370496 by omega),if_pos (by omega)]
 refine ⟨_,4503599627370496+r % 4503599627370496,r / 4503599627370496-1,?_,by omega,?_,hs⟩
 ·congr 1
 ·have:52≤(4503599627370496+r % 4503599627370496).log2:=(Nat.le_log2 (by omega)).2 (by omega)
  omega
theorem Ahc (neg:Bool) (n drop:Nat):n / 2 ^ min drop (n.log2+2)≤Ieee.Toward.even.cut neg n drop:=by
 unfold Ieee.Toward.cut
 rw [Nat.one_shiftLeft]
 show _≤n / 2 ^ min drop (n.log2+2)+Bool.toNat _
 exact Nat.le_add_right _ _
theorem eE (neg:Bool) {mag:Nat} {place lo:Int} (h0:mag≠0) (h:lo≤place+mag.log2) (k1: -1022≤lo) (k2:lo≤1023):pW (Ieee.Format.nearest Ieee.double neg mag place) lo:=by
 have hsw:Ieee.double.signWeight=9223372036854775808:=rfl
 have hb:Ieee.double.binade=4503599627370496:=rfl
 have hi:Ieee.double.infRung=9218868437227405312:=rfl
 have hl:Ieee.double.leastPlace= -1074:=rfl
 have hf:(Ieee.double.fractionBits:Int)=52:=rfl
 have word:∀r:Nat,(lo+1023)*4503599627370496≤(r:Int)→r<9223372036854775808→pW (Ieee.Format.word Ieee.double neg r) lo:=fun r hr hr2=>by
  unfold Ieee.Format.word
  rw [hsw]
  cases neg with
  |true=>rw [if_pos rfl];exact ⟨by omega,k1⟩
  |false=>rw [if_neg (by decide)];exact ⟨by omega,k1⟩
 refine (?_:∀E,Ieee.Format.nearest Ieee.double neg mag place=E→pW E lo) _ rfl
 intro E hE
 unfold Ieee.Format.nearest at hE
 rw [if_neg h0,hb,hi,hl,hf] at hE
 have hle:2 ^ mag.log2≤mag:=Nat.log2_self_le h0
 obtain ⟨L,hL⟩:∃L:Nat,mag.log2=L:=⟨_,rfl⟩
 rw [hL] at h hE hle
 have hlast:max (place+(L:Int)-52) (-1074)=place+L-52:=by omega
 have hE:Ieee.Format.word Ieee.double neg (min ((max (place+(L:Int)-52) (-1074) - -1074).toNat*4503599627370496+Ieee.Toward.even.cut neg (mag<<<(place-max (place+(L:Int)-52) (-1074)).toNat) (max (place+(L:Int)-52) (-1074)-place).toNat) 9218868437227405312)=E:=hE
 rw [hlast] at hE
 have hc:4503599627370496≤Ieee.Toward.even.cut neg (mag<<<(place-(place+L-52)).toNat) (place+L-52-place).toNat:=by
  by_cases c:L≤52
  ·rw [show (place+L-52-place).toNat=0 by omega,V1,Nat.shiftLeft_eq]
   have e1:2 ^ L*2 ^ (place-(place+L-52)).toNat≤mag*2 ^ (place-(place+L-52)).toNat:=Nat.mul_le_mul_right _ hle
   rw [← Nat.pow_add,show L+(place-(place+L-52)).toNat=52 by omega] at e1
   exact e1
  ·rw [show (place-(place+L-52)).toNat=0 by omega,Nat.shiftLeft_zero]
   refine Nat.le_trans ?_ (Ahc neg mag _)
   rw [hL,show min (place+(L:Int)-52-place).toNat (L+2)=L-52 by omega,Nat.le_div_iff_mul_le (Nat.pow_pos (by decide))]
   have e1:4503599627370496*2 ^ (L-52)=2 ^ L:=by
    rw [show (4503599627370496:Nat)=2 ^ 52 from rfl,← Nat.pow_add,show 52+(L-52)=L by omega]
   rw [e1]
   exact hle
 generalize Ieee.Toward.even.cut neg (mag<<<(place-(place+L-52)).toNat) (place+L-52-place).toNat=K at*
 rw [← hE]
 clear hE hsw hb hi hl hf hlast hle
 obtain ⟨A,hA⟩:∃A:Nat,(place+(L:Int)-52 - -1074).toNat=A:=⟨_,rfl⟩
 have hA2:(A:Int)=place+L+1022:=by omega
 rw [hA]
 clear hA
 have hlo:(lo+1023)*4503599627370496≤((A*4503599627370496+K:Nat):Int):=by
  rw [Int.natCast_add,Int.natCast_mul]
  omega
 generalize A*4503599627370496+K=Z at*
 by_cases c:Z≤9218868437227405312
 ·rw [Nat.min_eq_left c]
  exact word Z hlo (by omega)
 ·rw [Nat.min_eq_right (by omega)]
  exact word 9218868437227405312 (by omega) (by decide)
theorem j9 {x y:Nat} {a b lo:Int} (hx:Cu x a) (hy:Cu y b) (k2:max a b+1≤1023) (px:x<9223372036854775808) (py:y<9223372036854775808) (hl:pW y lo) (k3:lo≤1023):∃r,D6 x y=some r∧Cu r (max a b+1)∧r<9223372036854775808∧pW r lo:=by
 obtain ⟨r,q1,q2,q3⟩:=Ez hx hy k2
 refine ⟨r,q1,q2,q3 px py,?_⟩
 obtain ⟨s,m,i,h1,-,h3,-⟩:=G1 hx
 obtain ⟨t,n,j,g1,g2,g3,g4⟩:=Lh hy hl
 have hs:=h3 px
 have ht:=g4 py
 subst hs
 subst ht
 have h1:Ieee.Format.read Ieee.double x=_:=h1
 have g1:Ieee.Format.read Ieee.double y=_:=g1
 obtain ⟨base,hbase⟩:∃base:Int,min ((i:Int)-1074) ((j:Int)-1074)=base:=⟨_,rfl⟩
 obtain ⟨Pe,htot⟩:∃Pe:Int,Ieee.signed false m ((i:Int)-1074-base).toNat+Ieee.signed false n ((j:Int)-1074-base).toNat=Pe:=⟨_,rfl⟩
 have hval:(Ieee.Datum.sum (.number false m ((i:Int)-1074)) (.number false n ((j:Int)-1074))).map (Ieee.Format.write Ieee.double)=some (Ieee.Format.nearest Ieee.double (if Pe=0 then false && false else decide (Pe<0)) Pe.natAbs base):=by
  subst hbase
  subst htot
  rfl
 unfold D6 at q1
 have q1:((Ieee.Format.read Ieee.double x).sum (Ieee.Format.read Ieee.double y)).map (Ieee.Format.write Ieee.double)=some r:=q1
 rw [h1,g1,hval] at q1
 rw [← Option.some.inj q1]
 have e1:Pe.natAbs=m<<<((i:Int)-1074-base).toNat+n<<<((j:Int)-1074-base).toNat:=by
  rw [← htot]
  unfold Ieee.signed
  rw [if_neg (by decide),if_neg (by decide)]
  generalize m<<<((i:Int)-1074-base).toNat=X
  generalize n<<<((j:Int)-1074-base).toNat=Y
  omega
 have e2:2 ^ (n.log2+((j:Int)-1074-base).toNat)≤Pe.natAbs:=by
  rw [e1,Nat.shiftLeft_eq n,Nat.pow_add]
  exact Nat.le_trans (Nat.mul_le_mul_right _ (Nat.log2_self_le g2)) (Nat.le_add_left _ _)
 have e3:Pe.natAbs≠0:=by have:=Nat.pow_pos (n:=n.log2+((j:Int)-1074-base).toNat) (show 0<2 by decide);omega
 have e4:=(Nat.le_log2 e3).2 e2
 exact eE _ e3 (by omega) hl.2 k3
def vm (r:Nat):Nat:=if r<4503599627370496 then r else 4503599627370496+r % 4503599627370496
def vi (r:Nat):Nat:=if r<4503599627370496 then 0 else r / 4503599627370496-1
theorem Qo {r:Nat} (h:r<9218868437227405312):FloatKind.f64.decode r=.number false (vm r) ((vi r:Int)-1074):=by
 have hsw:Ieee.double.signWeight=9223372036854775808:=rfl
 have hb:Ieee.double.binade=4503599627370496:=rfl
 have hi:Ieee.double.infRung=9218868437227405312:=rfl
 have hl:Ieee.double.leastPlace= -1074:=rfl
 show Ieee.Format.read Ieee.double r=_
 unfold Ieee.Format.read vm vi
 rw [hsw,hb,hi,hl,show r % 9223372036854775808=r by omega,show r / 9223372036854775808=0 by omega]
 by_cases c:r<4503599627370496
 ·rw [if_pos c,if_pos c,if_pos c];rfl
 ·rw [if_neg c,if_neg c,if_neg c,if_pos h];rfl
theorem eN {r r':Nat} (h:r<r'):vm r*2 ^ vi r<vm r'*2 ^ vi r':=by
 unfold vm vi
 by_cases c:r<4503599627370496
 ·rw [if_pos c,if_pos c,Nat.pow_zero,Nat.mul_one]
  by_cases c':r'<4503599627370496
  ·rw [if_pos c',if_pos c',Nat.pow_zero,Nat.mul_one];exact h
  ·rw [if_neg c',if_neg c']
   have p:1≤2 ^ (r' / 4503599627370496-1):=Nat.pow_pos (by decide)
   have:(4503599627370496+r' % 4503599627370496)*1≤(4503599627370496+r' % 4503599627370496)*2 ^ (r' / 4503599627370496-1):=Nat.mul_le_mul_left _ p
   omega
 ·rw [if_neg c,if_neg c,if_neg (show ¬r'<4503599627370496 by omega),if_neg (show ¬r'<4503599627370496 by omega)]
  by_cases e:r / 4503599627370496=r' / 4503599627370496
  ·rw [e]
   exact Nat.mul_lt_mul_of_pos_right (by omega) (Nat.pow_pos (by decide))
  ·have q1:(4503599627370496+r % 4503599627370496)*2 ^ (r / 4503599627370496-1)<2 ^ 53*2 ^ (r / 4503599627370496-1):=Nat.mul_lt_mul_of_pos_right (by omega) (Nat.pow_pos (by decide))
   have q2:2 ^ 52*2 ^ (r' / 4503599627370496-1)≤(4503599627370496+r' % 4503599627370496)*2 ^ (r' / 4503599627370496-1):=Nat.mul_le_mul_right _ (by omega)
   rw [← Nat.pow_add] at q1 q2
   have q3:=Gl (show 53+(r / 4503599627370496-1)≤52+(r' / 4503599627370496-1) by omega)
   omega
theorem sL {m n i j:Nat} (h:m*2 ^ i<n*2 ^ j):m<<<((i:Int)-1074-min ((i:Int)-1074) ((j:Int)-1074)).toNat<n<<<((j:Int)-1074-min ((i:Int)-1074) ((j:Int)-1074)).toNat:=by
 rw [Nat.shiftLeft_eq,Nat.shiftLeft_eq]
 refine Nat.lt_of_mul_lt_mul_right (a:=2 ^ min i j) ?_
 rw [Nat.mul_assoc,Nat.mul_assoc,← Nat.pow_add,← Nat.pow_add]
 rw [show ((i:Int)-1074-min ((i:Int)-1074) ((j:Int)-1074)).toNat+min i j=i by omega,show ((j:Int)-1074-min ((i:Int)-1074) ((j:Int)-1074)).toNat+min i j=j by omega]
 exact h
theorem jF {x y:Nat} (h:x<y) (hy:y<9218868437227405312):P6 x y=some .lt:=by
 rw [L5 (Qo (show x<9218868437227405312 by omega)) (Qo hy)]
 congr 1
 rw [Int.compare_eq_lt]
 have:=sL (eN h)
 unfold Ieee.signed
 rw [if_neg (by decide),if_neg (by decide)]
 exact Int.ofNat_lt.2 this
theorem Pq {x y:Nat} (h:y<x) (hx:x<9218868437227405312):P6 x y=some .gt:=by
 rw [L5 (Qo hx) (Qo (show y<9218868437227405312 by omega))]
 congr 1
 rw [Int.compare_eq_gt]
 have:=sL (eN h)
 rw [show min ((vi y:Int)-1074) ((vi x:Int)-1074)=min ((vi x:Int)-1074) ((vi y:Int)-1074) by omega] at this
 unfold Ieee.signed
 rw [if_neg (by decide),if_neg (by decide)]
 exact Int.ofNat_lt.2 this
end Go.Proofs.YtkdodbfnocdkdaaGreatDoor
set_option linter.unusedVariables false
set_option linter.unusedSimpArgs false
set_option maxHeartbeats 4000000
namespace Go.Proofs.YtkdodbfnocdkdaaGreatDoor
def cxp (w:Nat):Int:=(((w % 9223372036854775808+4503599627370495) / 4503599627370496:Nat):Int)-1023
theorem Dl (w:Nat) (k:Int) (h:(Nat.blt w 18446744073709551616 && decide (-1022≤cxp w) && decide (cxp w≤k) && decide (k≤1023))=true):Cu w k:=by
 simp only [Bool.and_eq_true,decide_eq_true_eq,Nat.blt_eq] at h
 obtain ⟨⟨⟨h1,h2⟩,h3⟩,h4⟩:=h
 unfold cxp at h2 h3
 exact ⟨h1,by omega,by omega,h4⟩
theorem Rw (n:Nat) {x:Nat} (h:Cu x 4):∃r,eI n x=some r∧Cu r 43:=by
 unfold eI
 obtain ⟨z,ez,fz,pz⟩:=Fq h h (by decide) (by decide)
 have pz:=pz Iff.rfl
 obtain ⟨x1,e1,f1,-⟩:=Fq (Dl 13829429103926125972 0 (by decide+kernel)) fz (by decide) (by decide)
 obtain ⟨x2,e2,f2,-⟩:=Ez f1 (Dl 13848613196940411002 5 (by decide+kernel)) (by decide)
 obtain ⟨x3,e3,f3,-⟩:=Fq f2 fz (by decide) (by decide)
 obtain ⟨x4,e4,f4,-⟩:=Ez f3 (Dl 13858350711815275123 7 (by decide+kernel)) (by decide)
 obtain ⟨x5,e5,f5,-⟩:=Fq f4 fz (by decide) (by decide)
 obtain ⟨x6,e6,f6,-⟩:=Ez f5 (Dl 13861719834326579749 7 (by decide+kernel)) (by decide)
 obtain ⟨x7,e7,f7,-⟩:=Fq f6 fz (by decide) (by decide)
 obtain ⟨x8,e8,f8,-⟩:=Ez f7 (Dl 13857635882265799822 7 (by decide+kernel)) (by decide)
 obtain ⟨x9,e9,f9,-⟩:=Fq fz f8 (by decide) (by decide)
 obtain ⟨y0,d0,g0,p0⟩:=Ez fz (Dl 4627690253511319612 5 (by decide+kernel)) (by decide)
 have p0:=p0 pz (by decide)
 obtain ⟨y1,d1,g1,p1⟩:=Fq g0 fz (by decide) (by decide)
 have p1:=p1 ⟨fun _=>pz,fun _=>p0⟩
 obtain ⟨y2,d2,g2,p2⟩:=Ez g1 (Dl 4640010388282866213 8 (by decide+kernel)) (by decide)
 have p2:=p2 p1 (by decide)
 obtain ⟨y3,d3,g3,p3⟩:=Fq g2 fz (by decide) (by decide)
 have p3:=p3 ⟨fun _=>pz,fun _=>p2⟩
 obtain ⟨y4,d4,g4,p4⟩:=Ez g3 (Dl 4646322940342877755 9 (by decide+kernel)) (by decide)
 have p4:=p4 p3 (by decide)
 obtain ⟨y5,d5,g5,p5⟩:=Fq g4 fz (by decide) (by decide)
 have p5:=p5 ⟨fun _=>pz,fun _=>p4⟩
 obtain ⟨y6,d6,g6,p6⟩:=Ez g5 (Dl 4647246694406179306 9 (by decide+kernel)) (by decide)
 have p6:=p6 p5 (by decide)
 obtain ⟨y7,d7,g7,p7⟩:=Fq g6 fz (by decide) (by decide)
 have p7:=p7 ⟨fun _=>pz,fun _=>p6⟩
 obtain ⟨y8,d8,g8,p8,l8⟩:=j9 g7 (Dl 4641049159275471596 8 (by decide+kernel)) (by decide) p7 (by decide) (lo:=7) (by unfold pW;decide+kernel) (by decide)
 obtain ⟨t,m,j,q1,q2,q3,-⟩:=Lh g8 l8
 obtain ⟨u,eu,fu,-⟩:=Oj f9 q1 q2 q3 (by decide) (by decide)
 obtain ⟨v,ev,fv,-⟩:=Fq h fu (by decide) (by decide)
 obtain ⟨w,ew,fw,-⟩:=Ez fv h (by decide)
 rw [ez,Option.bind_some,e1,Option.bind_some,e2,Option.bind_some,e3,Option.bind_some,e4,Option.bind_some,e5,Option.bind_some,e6,Option.bind_some,e7,Option.bind_some,e8,Option.bind_some,e9,Option.bind_some,d0,Option.bind_some,d1,Option.bind_some,d2,Option.bind_some,d3,Option.bind_some,d4,Option.bind_some,d5,Option.bind_some,d6,Option.bind_some,d7,Option.bind_some,d8,Option.bind_some,eu,Option.bind_some,ev,Option.bind_some,ew,Option.bind_some]
 exact ⟨w,rfl,fw⟩
end Go.Proofs.YtkdodbfnocdkdaaGreatDoor
set_option linter.unusedVariables false
set_option linter.unusedSimpArgs false
namespace Go.Proofs.YtkdodbfnocdkdaaGreatDoor
theorem Cu.of_le {x c:Nat} {k:Int} (h:x≤c) (hc:(c:Int)≤(k+1023)*4503599627370496) (hp:c<9223372036854775808) (k1: -1022≤k) (k2:k≤1023):Cu x k:=⟨by omega,by omega,k1,k2⟩
theorem Cu.rW {x:Nat} {a:Int} (h:Cu x a) (hp:x<9223372036854775808):x<9218868437227405312:=by
 obtain ⟨h1,h2,h3,h4⟩:=h
 omega
theorem Abf {x:Nat} {a:Int} (h:Cu x a) (hg:aO x 0=true):x<9223372036854775808:=by
 refine Nat.lt_of_not_le fun hx=> ?_
 obtain ⟨s,m,i,h1,h2,-,h4⟩:=G1 h
 have h4:=h4 hx
 subst h4
 unfold aO at hg
 rw [L5 h1 (show FloatKind.f64.decode 0=.number false 0 (-1074) from by decide+kernel)] at hg
 have hg:=Int.compare_eq_gt.1 (Option.some.inj (eq_of_beq hg))
 unfold Ieee.signed at hg
 rw [if_pos rfl,if_neg (by decide),Nat.zero_shiftLeft] at hg
 generalize m<<<((i:Int)-1074-min ((i:Int)-1074) (-1074)).toNat=X at hg
 omega
theorem jC {x:Nat} {a:Int} (h:Cu x a) (hx:x<9223372036854775808) (he:nE x 0=false):aO x 0=true:=by
 by_cases c:x=0
 ·subst c
  unfold nE at he
  rw [L5 (show FloatKind.f64.decode 0=.number false 0 (-1074) from by decide+kernel) (show FloatKind.f64.decode 0=.number false 0 (-1074) from by decide+kernel)] at he
  exact absurd he (by decide)
 ·unfold aO
  rw [Pq (by omega) (h.rW hx)]
  rfl
theorem Ala {x c:Nat} (hx:x<9218868437227405312) (h:fLe x c=true):x≤c:=by
 refine Nat.le_of_not_lt fun q=> ?_
 unfold fLe at h
 rw [Pq q hx] at h
 exact absurd h (by decide)
theorem gI {x c:Nat} (hx:x<9218868437227405312) (h:aO x c=false):x≤c:=by
 refine Nat.le_of_not_lt fun q=> ?_
 unfold aO at h
 rw [Pq q hx] at h
 exact absurd h (by decide)
theorem Ahb {x c:Nat} (hc:c<9218868437227405312) (h:aO x c=true):c≤x:=by
 refine Nat.le_of_not_lt fun q=> ?_
 unfold aO at h
 rw [jF q hc] at h
 exact absurd h (by decide)
theorem gL (w:Ieee.Toward) (neg:Bool) (n drop:Nat):(Ieee.Toward.cut w neg n drop)≤n / 2 ^ min drop (n.log2+2)+1:=by
 unfold Ieee.Toward.cut
 rw [Nat.one_shiftLeft]
 show n / 2 ^ min drop (n.log2+2)+Bool.toNat _≤_
 have:∀b:Bool,b.toNat≤1:=fun b=>by cases b<;>decide
 exact Nat.add_le_add_left (this _) _
theorem mS {x a:Nat} (hx:Cu x a) (ha:a≤1000):∃r,Rs x=some r∧Cu r ((a:Int)+1):=by
 obtain ⟨s,m,i,h1,h2,h3,-⟩:=Gr hx
 unfold Rs
 rw [h1]
 obtain ⟨c,hc⟩:∃c:Nat,Ieee.Toward.down.cut s (m<<<((i:Int)-1074).toNat) (-((i:Int)-1074)).toNat=c:=⟨_,rfl⟩
 have hcb:c≤2 ^ (a+1):=by
  have hp:0<2 ^ (a+1):=Nat.pow_pos (by decide)
  refine Nat.le_trans (by rw [← hc];exact gL _ _ _ _) ?_
  by_cases hm:m=0
  ·rw [hm,Nat.zero_shiftLeft,Nat.zero_div];omega
  have h4:=h2 hm
  have h5:=Jb m
  by_cases c1:0≤(i:Int)-1074
  ·rw [show (-((i:Int)-1074)).toNat=0 by omega,Nat.zero_min,Nat.pow_zero,Nat.div_one,Nat.shiftLeft_eq]
   have:m*2 ^ ((i:Int)-1074).toNat<2 ^ (m.log2+1)*2 ^ ((i:Int)-1074).toNat:=Nat.mul_lt_mul_of_pos_right h5 (Nat.pow_pos (by decide))
   rw [← Nat.pow_add] at this
   exact Nat.lt_of_lt_of_le this (Gl (by omega))
  ·rw [show ((i:Int)-1074).toNat=0 by omega,Nat.shiftLeft_zero]
   refine Nat.succ_le_of_lt ?_
   rw [Nat.div_lt_iff_lt_mul (Nat.pow_pos (by decide)),← Nat.pow_add]
   exact Nat.lt_of_lt_of_le h5 (Gl (by omega))
 have hval:(match (Ieee.Datum.number s m ((i:Int)-1074):Ieee.Datum) with|.nan _ _=>none|d=>some (FloatKind.f64.encode (d.integral .down)))=some (Ieee.Format.nearest Ieee.double s c 0):=by
  rw [← hc];rfl
 obtain ⟨q1,-⟩:=P4 s (mag:=c) (p:=0) (q:=a+1) (place:=0) (k:=(a:Int)+1) (by rw [Nat.pow_zero,Nat.mul_one];exact hcb) (by omega) (by omega) (by omega)
 exact ⟨_,hval,q1⟩
end Go.Proofs.YtkdodbfnocdkdaaGreatDoor
set_option linter.unusedVariables false
set_option linter.unusedSimpArgs false
set_option maxHeartbeats 4000000
namespace Go.Proofs.YtkdodbfnocdkdaaGreatDoor
theorem W9 (n:Nat) {x:Nat} (h:Cu x 30) (hx:x<9223372036854775808):∃r,jO n x=some r∧Cu r 45:=by
 have hi:=h.rW hx
 unfold jO
 cases c1:fLe x 4604119971053405471 with
 |true=>
  have:=Ala hi c1
  obtain ⟨r,e,f⟩:=Rw n (x:=x) (Cu.of_le (k:=4) this (by decide) (by decide) (by decide) (by decide))
  rw [cond_true,e]
  exact ⟨r,rfl,f.up (by decide) (by decide)⟩
 |false=>
  rw [cond_false]
  cases c2:aO x 4612618744449965542 with
  |true=>
   have q:=Ahb (by decide) c2
   have l:pW x 1:=⟨by omega,by decide⟩
   obtain ⟨t,m,j,q1,q2,q3,-⟩:=Lh h l
   obtain ⟨u,eu,fu,-⟩:=Oj (Dl 4607182418800017408 0 (by decide+kernel)) q1 q2 q3 (by decide) (by decide)
   obtain ⟨r,e,f⟩:=Rw n (x:=u) (fu.up (by decide) (by decide))
   obtain ⟨v,ev,fv⟩:=Sg (Dl 4609753056924675352 1 (by decide+kernel)) f (by decide)
   obtain ⟨w,ew,fw,-⟩:=Ez fv (Dl 4364452196894661639 0 (by decide+kernel)) (by decide)
   rw [cond_true,eu,Option.bind_some,e,Option.bind_some,ev,Option.bind_some,ew]
   exact ⟨w,rfl,fw.up (by decide) (by decide)⟩
  |false=>
   have q:=gI hi c2
   have h2:Cu x 2:=Cu.of_le (k:=2) q (by decide) (by decide) (by decide) (by decide)
   obtain ⟨a,ea,fa⟩:=Sg h2 (Dl 4607182418800017408 0 (by decide+kernel)) (by decide)
   obtain ⟨b,eb,fb,pb,lb⟩:=j9 h2 (Dl 4607182418800017408 0 (by decide+kernel)) (by decide) hx (by decide) (lo:=0) (by unfold pW;decide+kernel) (by decide)
   obtain ⟨t,m,j,q1,q2,q3,-⟩:=Lh fb lb
   obtain ⟨u,eu,fu,-⟩:=Oj fa q1 q2 q3 (by decide) (by decide)
   obtain ⟨r,e,f⟩:=Rw n (x:=u) (fu.up (by decide) (by decide))
   obtain ⟨v,ev,fv,-⟩:=Ez (Dl 4605249457297304856 0 (by decide+kernel)) f (by decide)
   obtain ⟨w,ew,fw,-⟩:=Ez fv (Dl 4359948597267291143 0 (by decide+kernel)) (by decide)
   rw [cond_false,ea,Option.bind_some,eb,Option.bind_some,eu,Option.bind_some,e,Option.bind_some,ev,Option.bind_some,ew]
   exact ⟨w,rfl,fw.up (by decide) (by decide)⟩
theorem wD {x:Nat} (h:x<18446744073709551616) (hx:9223372036854775808≤x):I0 x<9223372036854775808:=by
 have e:I0 x=x ^^^ 2 ^ 63:=rfl
 have d:(x ^^^ 2 ^ 63) / 2 ^ 63=x / 2 ^ 63 ^^^ 2 ^ 63 / 2 ^ 63:=Nat.xor_div_two_pow
 rw [show x / 2 ^ 63=1 by omega,show 2 ^ 63 / 2 ^ 63=1 by decide,Nat.xor_self] at d
 rw [e]
 omega
theorem rP (n:Nat) {x:Nat} (h:Cu x 30):∃r,nT n x=some r∧Cu r 45:=by
 unfold nT Aax
 cases c1:nE x 0 with
 |true=>exact ⟨x,rfl,h.up (by decide) (by decide)⟩
 |false=>
  rw [cond_false]
  cases c2:aO x 0 with
  |true=>
   obtain ⟨r,e,f⟩:=W9 n h (Abf h c2)
   rw [cond_true,e]
   exact ⟨r,rfl,f⟩
  |false=>
   have hx:9223372036854775808≤x:=Nat.le_of_not_lt fun q=>by
    rw [jC h q c1] at c2;cases c2
   obtain ⟨r,e,f⟩:=W9 n (T6 h) (wD h.1 hx)
   rw [cond_false,e]
   exact ⟨_,rfl,T6 f⟩
theorem wQ (n:Nat) {c a:Nat} {k:Int} (hc:Cu c k) (ha:a<18446744073709551616):∃r,P8 n c a=some r∧Cu r k:=by
 unfold P8
 have e1:Ho .u64 (c:Int) 9223372036854775808=((c &&& 9223372036854775807:Nat):Int):=R6 (Y:=9223372036854775808) hc.1 (by decide)
 have e2:E6 .u64 (a:Int) 9223372036854775808=((a &&& 9223372036854775808:Nat):Int):=Vo (Y:=9223372036854775808) ha (by decide)
 have l1:c &&& 9223372036854775807≤9223372036854775807:=Nat.and_le_right
 have l2:a &&& 9223372036854775808≤9223372036854775808:=Nat.and_le_right
 rw [e1,e2,mK (by omega) (by omega),Int.toNat_natCast]
 refine ⟨_,rfl,Nat.or_lt_two_pow (n:=64) (by omega) (by omega),?_,hc.2.2.1,hc.2.2.2⟩
 have m1:((c &&& 9223372036854775807)|||(a &&& 9223372036854775808)) % 2 ^ 63=c % 2 ^ 63:=by
  rw [Nat.or_mod_two_pow,Nat.and_mod_two_pow (a:=a),show 9223372036854775808 % 2 ^ 63=0 from rfl,Nat.and_zero,Nat.or_zero,show (9223372036854775807:Nat)=2 ^ 63-1 from rfl,Nat.and_two_pow_sub_one_eq_mod,Nat.mod_mod]
 show ((((c &&& 9223372036854775807)|||(a &&& 9223372036854775808)) % 2 ^ 63:Nat):Int)≤_
 rw [m1]
 exact hc.2.1
theorem Y8 (n:Nat) (x:Nat) (z:Int):∃b,Si n x z=some b:=by
 unfold Si nM
 cases (z==0)<;>cases decide (z<0)<;>exact ⟨_,rfl⟩
theorem Aem {z:Int} (h:z≠0):pW (Kp z) 0:=by
 unfold Kp
 show pW (Ieee.Format.nearest Ieee.double (decide (z<0)) z.natAbs 0) 0
 exact eE _ (by omega) (by omega) (by decide) (by decide)
theorem nJ (n:Nat) (X Y:Int) (hX: -2000000≤X∧X≤2000000) (hY: -2000000≤Y∧Y≤2000000):∃r,eM n (Kp X) (Kp Y)=some r∧Cu r 46:=by
 have hx:=(aI (z:=X) (e:=21) (by omega) (by decide)).1
 have hy:=(aI (z:=Y) (e:=21) (by omega) (by decide)).1
 have nan:∀{w:Nat} {k:Int},Cu w k→Wp n w=some false:=fun hw=>by
  unfold Wp fNe
  rw [cM hw];rfl
 unfold eM zC
 rw [nan hx,Option.bind_some,cond_false,nan hy,Option.bind_some,cond_false]
 have fin:∀{m:Option Nat},(∃r,m=some r∧Cu r 46)→∃r,(m.bind fun x=>some x)=some r∧Cu r 46:=fun ⟨r,e,f⟩=>⟨r,by rw [e];rfl,f⟩
 have cs:∀c k,k≤46→Cu c k→∃r,P8 n c (Kp X)=some r∧Cu r 46:=fun c k hk hc=>by
  obtain ⟨r,e,f⟩:=wQ n hc hx.1
  exact ⟨r,e,f.up hk (by decide)⟩
 refine fin ?_
 have k0:Cu 0 0:=⟨by decide,by decide,by decide,by decide⟩
 have kpi:Cu 4614256656552045848 2:=Dl 4614256656552045848 2 (by decide+kernel)
 have kh:Cu 4609753056924675352 1:=Dl 4609753056924675352 1 (by decide+kernel)
 have kq:Cu 4605249457297304856 0:=Dl 4605249457297304856 0 (by decide+kernel)
 have k3:Cu 4612488097114038738 2:=Dl 4612488097114038738 2 (by decide+kernel)
 cases nE (Kp X) 0 with
 |true=>
  rw [cond_true]
  cases fGe (Kp Y) 0 with
  |true=>
   rw [cond_true]
   unfold sT
   rw [Option.bind_some]
   cases decide (IntKind.wrap .i64 ((Kp Y:Nat):Int)<0) with
   |false=>exact fin (cs 0 0 (by decide) k0)
   |true=>exact fin (cs _ 2 (by decide) kpi)
  |false=>exact fin (cs _ 2 (by decide) kpi)
 |false=>
  rw [cond_false]
  cases cy:nE (Kp Y) 0 with
  |true=>exact fin (cs _ 1 (by decide) kh)
  |false=>
   rw [cond_false]
   obtain ⟨b1,f1⟩:=Y8 n (Kp Y) 0
   obtain ⟨b2,f2⟩:=Y8 n (Kp Y) 1
   obtain ⟨b3,f3⟩:=Y8 n (Kp X) 0
   rw [f1,Option.bind_some]
   cases b1 with
   |true=>
    rw [cond_true,f2,Option.bind_some]
    cases b2 with
    |true=>
     rw [cond_true,f3,Option.bind_some]
     cases b3 with
     |true=>exact fin (cs _ 0 (by decide) kq)
     |false=>exact fin (cs _ 0 (by decide) k0)
    |false=>
     rw [cond_false,f3,Option.bind_some]
     cases b3 with
     |true=>exact fin (cs _ 2 (by decide) k3)
     |false=>exact fin (cs _ 2 (by decide) kpi)
   |false=>
    rw [cond_false,f3,Option.bind_some]
    cases b3 with
    |true=>exact fin (cs _ 1 (by decide) kh)
    |false=>
     have hY0:Y≠0:=by
      rintro rfl
      rw [show nE (Kp 0) 0=true by decide+kernel] at cy;cases cy
     obtain ⟨t,m,j,q1,q2,q3,-⟩:=Lh hy (Aem hY0)
     obtain ⟨u,eu,fu,-⟩:=Oj hx q1 q2 q3 (by decide) (by decide)
     obtain ⟨r,e,f⟩:=rP n (x:=u) (fu.up (by decide) (by decide))
     rw [cond_false,eu,Option.bind_some,e,Option.bind_some]
     cases fLt (Kp Y) 0 with
     |false=>exact ⟨r,rfl,f.up (by decide) (by decide)⟩
     |true=>
      rw [cond_true]
      cases fLe r 0 with
      |true=>
       obtain ⟨v,ev,fv,-⟩:=Ez f kpi (by decide)
       rw [cond_true,ev]
       exact ⟨v,rfl,fv.up (by decide) (by decide)⟩
      |false=>
       obtain ⟨v,ev,fv⟩:=Sg f kpi (by decide)
       rw [cond_false,ev]
       exact ⟨v,rfl,fv.up (by decide) (by decide)⟩
end Go.Proofs.YtkdodbfnocdkdaaGreatDoor
set_option linter.unusedVariables false
set_option linter.unusedSimpArgs false
set_option maxHeartbeats 4000000
namespace Go.Proofs.YtkdodbfnocdkdaaGreatDoor
theorem Z7 {α:Type} {b:Bool} {x y:α} {P Q:α→Prop} (h1:b=true→P x∨Q x) (h2:b=false→P y∨Q y):P (bif b then x else y)∨Q (bif b then x else y):=by
 cases b
 ·exact h2 rfl
 ·exact h1 rfl
theorem dK (n:Nat) (h:Int):∃p,Sk n h=some p:=by
 unfold Sk bO
 obtain ⟨a,ea,-⟩:=Q4 n h
 obtain ⟨m,em,-⟩:=K9 n h
 obtain ⟨b,eb,-⟩:=Q4 n (IntKind.wrap .i64 ((m:Int)+1024))
 rw [ea,em]
 simp only [Option.bind_some]
 rw [eb]
 exact ⟨_,rfl⟩
def Gp (i:Nat) (o:Option (Int⊕(Int×Int))):Prop:=∃y,o=some (.inl y)∧(∃j:Nat,y=(j:Int)∧j≤4096)∧4096-y.toNat<4096-(i:Int).toNat
def Gq (o:Option (Int⊕(Int×Int))):Prop:=∃r,o=some (.inr r)∧∃h:Int,r=(h,0)∧0≤h∧h≤4095
theorem Aci (n:Nat) (hn:4100<n) (z X Y:Int):∃h:Int,Bw (fun y:Int=>M6 n 0 z X Y y) n 0=some (h,0)∧0≤h∧h≤4095:=by
 obtain ⟨r,e,h,rfl,h2⟩:=Ei (S:=fun y:Int=>M6 n 0 z X Y y) (fun y=>∃i:Nat,y=(i:Int)∧i≤4096) (fun r=>∃h:Int,r=(h,0)∧0≤h∧h≤4095) (fun y=>4096-y.toNat) (fun y ⟨i,hy,hi⟩=>by
  subst hy
  unfold M6
  by_cases c:i<4096
  ·rw [decide_eq_true (by omega),cond_true]
   have nx:IntKind.wrap .i64 ((i:Int)+1)=((i+1:Nat):Int):=wS (by omega)
   have go:∃y,(some (.inl (IntKind.wrap .i64 ((i:Int)+1))):Option (Int⊕(Int×Int)))=some (.inl y)∧(∃j:Nat,y=(j:Int)∧j≤4096)∧4096-y.toNat<4096-(i:Int).toNat:=⟨_,rfl,⟨i+1,nx,by omega⟩,by rw [nx];omega⟩
   obtain ⟨m,em,hm⟩:=K9 n (IntKind.wrap .i64 (z+(i:Int)))
   obtain ⟨m2,em2,hm2⟩:=K9 n (IntKind.wrap .i64 (z-(i:Int)))
   have tail:∀(k:Nat),k<4096→Gp i ((Sk n (k:Int)).bind fun x706=>
(Sk n (IntKind.wrap .i64 ((k:Int)+(1)))).bind fun x707=>
(Tx n x706 (⟨X,Y⟩:TP)).bind fun x708=>
(Tx n (⟨X,Y⟩:TP) x707).bind fun x709=>
bif (decide (x708≥(0))) then (
bif (decide (x709>(0))) then (
bif (decide ((IntKind.wrap .i64 ((IntKind.wrap .i64 (x706.X*X))+(IntKind.wrap .i64 (x706.Y*Y))))>(0))) then (
bif (decide (x708≤x709)) then (
some (.inr ((k:Int),(0)))) else (
(O5 n (IntKind.wrap .i64 ((k:Int)+(1)))).bind fun x710=>
some (.inr (x710,(0))))) else (
some (.inl (IntKind.wrap .i64 ((i:Int)+(1)))))) else (
some (.inl (IntKind.wrap .i64 ((i:Int)+(1)))))) else (
some (.inl (IntKind.wrap .i64 ((i:Int)+(1))))):Option (Int⊕(Int×Int)))∨Gq ((Sk n (k:Int)).bind fun x706=>
(Sk n (IntKind.wrap .i64 ((k:Int)+(1)))).bind fun x707=>
(Tx n x706 (⟨X,Y⟩:TP)).bind fun x708=>
(Tx n (⟨X,Y⟩:TP) x707).bind fun x709=>
bif (decide (x708≥(0))) then (
bif (decide (x709>(0))) then (
bif (decide ((IntKind.wrap .i64 ((IntKind.wrap .i64 (x706.X*X))+(IntKind.wrap .i64 (x706.Y*Y))))>(0))) then (
bif (decide (x708≤x709)) then (
some (.inr ((k:Int),(0)))) else (
(O5 n (IntKind.wrap .i64 ((k:Int)+(1)))).bind fun x710=>
some (.inr (x710,(0))))) else (
some (.inl (IntKind.wrap .i64 ((i:Int)+(1)))))) else (
some (.inl (IntKind.wrap .i64 ((i:Int)+(1)))))) else (
some (.inl (IntKind.wrap .i64 ((i:Int)+(1))))):Option (Int⊕(Int×Int))):=fun k hk=>by
    obtain ⟨p,ep⟩:=dK n (k:Int)
    obtain ⟨q,eq⟩:=dK n (IntKind.wrap .i64 ((k:Int)+1))
    obtain ⟨m3,em3,hm3⟩:=K9 n (IntKind.wrap .i64 ((k:Int)+1))
    rw [ep,eq]
    simp only [Option.bind_some]
    unfold Tx
    simp only [Option.bind_some]
    rw [em3]
    refine Z7 (P:=Gp i) (Q:=Gq) (fun _=> ?_) (fun _=> .inl go)
    refine Z7 (P:=Gp i) (Q:=Gq) (fun _=> ?_) (fun _=> .inl go)
    refine Z7 (P:=Gp i) (Q:=Gq) (fun _=> ?_) (fun _=> .inl go)
    refine Z7 (P:=Gp i) (Q:=Gq) (fun _=> .inr ⟨_,rfl,_,rfl,by omega,by omega⟩) (fun _=> .inr ⟨_,rfl,_,rfl,by omega,by omega⟩)
   rw [em,em2]
   simp only [Option.bind_some]
   cases (Int.tmod (i:Int) 2==1) with
   |true=>rw [cond_true];exact tail m2 hm2
   |false=>rw [cond_false];exact tail m hm
  ·rw [decide_eq_false (by omega),cond_false]
   exact .inr ⟨_,rfl,_,rfl,by decide,by decide⟩) n 0 ⟨0,rfl,by decide⟩ (by show 4096-0<n;omega)
 exact ⟨h,e,h2⟩
theorem Ajv (n:Nat) (hn:4100<n) (v:TP):∃h e:Int,nP n v=some (h,e)∧0≤h∧h≤4095:=by
 have key:(-2000000≤v.X∧v.X≤2000000)→(-2000000≤v.Y∧v.Y≤2000000)→∃h e:Int,((eM n (Kp v.X) (Kp v.Y)).bind fun x696=>
(Cp x696 4656722014701092864).bind fun x697=>
(Jy x697 4614256656552045848).bind fun x698=>
(jQ n x698).bind fun x700=>
(Tu .i64 x700).bind fun x701=>
Bw (fun y:Int=>M6 n (0) x701 v.X v.Y y) n (0))=some (h,e)∧0≤h∧h≤4095:=fun hX hY=>by
  obtain ⟨r,er,fr⟩:=nJ n v.X v.Y hX hY
  obtain ⟨a,ea,fa,-⟩:=Fq fr (Dl 4656722014701092864 11 (by decide+kernel)) (by decide) (by decide)
  obtain ⟨t,m,j,q1,q2,q3,-⟩:=Lh (Dl 4614256656552045848 2 (by decide+kernel)) (lo:=1) (by unfold pW;decide+kernel)
  obtain ⟨b,eb,fb,-⟩:=Oj fa q1 q2 q3 (by decide) (by decide)
  obtain ⟨c,ec,fc⟩:=mS (a:=57) (fb.up (by decide) (by decide)) (by decide)
  obtain ⟨z,ez,-⟩:=lR fc (e:=58) (by decide) .i64 (.inr rfl) (by decide)
  obtain ⟨h,eh,h1,h2⟩:=Aci n hn z v.X v.Y
  unfold jQ
  rw [er,Option.bind_some,ea,Option.bind_some,eb,Option.bind_some,ec,Option.bind_some,Option.bind_some,ez,Option.bind_some,eh]
  exact ⟨h,0,rfl,h1,h2⟩
 unfold nP
 by_cases c1:v.X< -2000000
 ·rw [decide_eq_true c1,cond_true];exact ⟨0,4,rfl,by decide,by decide⟩
 rw [decide_eq_false c1,cond_false]
 by_cases c2:v.X>2000000
 ·rw [decide_eq_true c2,cond_true];exact ⟨0,4,rfl,by decide,by decide⟩
 rw [decide_eq_false c2,cond_false]
 by_cases c3:v.Y< -2000000
 ·rw [decide_eq_true c3,cond_true];exact ⟨0,4,rfl,by decide,by decide⟩
 rw [decide_eq_false c3,cond_false]
 by_cases c4:v.Y>2000000
 ·rw [decide_eq_true c4,cond_true];exact ⟨0,4,rfl,by decide,by decide⟩
 rw [decide_eq_false c4,cond_false]
 cases (v.X==0) with
 |false=>rw [cond_false];exact key ⟨by omega,by omega⟩ ⟨by omega,by omega⟩
 |true=>
  rw [cond_true]
  cases (v.Y==0) with
  |true=>exact ⟨0,10,rfl,by decide,by decide⟩
  |false=>rw [cond_false];exact key ⟨by omega,by omega⟩ ⟨by omega,by omega⟩
end Go.Proofs.YtkdodbfnocdkdaaGreatDoor
