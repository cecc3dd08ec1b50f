/- A part. -/
import Derived.Test.YtmhnnmfcjdnlhaaGreatDoorFla
set_option linter.unusedVariables false
set_option linter.unusedSimpArgs false
namespace Go.Proofs.YtmhnnmfcjdnlhaaGreatDoor
theorem gE {mag p q:Nat} (h0:mag≠0) (h:mag*2 ^ p≤2 ^ q):mag.log2+p<q∨(mag.log2+p=q∧mag=2 ^ mag.log2):=by
 have h1:2 ^ mag.log2≤mag:=Nat.log2_self_le h0
 have h2:2 ^ (mag.log2+p)≤2 ^ q:=by
  rw [Nat.pow_add]
  exact Nat.le_trans (Nat.mul_le_mul_right _ h1) h
 have h3:mag.log2+p≤q:=(Nat.pow_le_pow_iff_right (by decide)).1 h2
 rcases Nat.lt_or_eq_of_le h3 with k|k
 ·exact .inl k
 ·refine .inr ⟨k,Nat.le_antisymm ?_ h1⟩
  rw [← k,Nat.pow_add] at h
  exact Nat.le_of_mul_le_mul_right h (Nat.pow_pos (by decide))
theorem gQ (neg:Bool) {L d:Nat} (h:d≤L):Ieee.Toward.even.cut neg (2 ^ L) d=2 ^ (L-d):=by
 unfold Ieee.Toward.cut
 rw [Nat.one_shiftLeft,Nat.log2_two_pow,show min d (L+2)=d by omega]
 have hm:2 ^ L % 2 ^ d=0:=by
  rw [show L=(L-d)+d by omega,Nat.pow_add,Nat.mul_mod_left]
 have hd:2 ^ L / 2 ^ d=2 ^ (L-d):=Nat.pow_div h (by decide)
 show 2 ^ L / 2 ^ d+Bool.toNat (decide (2 ^ d<2*(2 ^ L % 2 ^ d))||(2 ^ d==2*(2 ^ L % 2 ^ d) && 2 ^ L / 2 ^ d % 2==1))=_
 have hp:0<2 ^ d:=Nat.pow_pos (by decide)
 rw [hm,hd,decide_eq_false (by omega),show (2 ^ d==2*0)=false from beq_eq_false_iff_ne.2 (by omega)]
 rfl
theorem lJ (neg:Bool) {L:Nat} {place k:Int} (h:place+L=k) (k1: -1022≤k) (k2:k≤1023):C3 (Ieee.Format.nearest Ieee.double neg (2 ^ L) place) k∧(neg=false→Ieee.Format.nearest Ieee.double neg (2 ^ L) place<9223372036854775808):=by
 have hsw:Ieee.double.signWeight=9223372036854775808:=rfl
 have hb:Ieee.double.binade=4503599627370496:=rfl
 have hi:Ieee.double.infRung=9218868437227405312:=rfl
 have hl:Ieee.double.leastPlace= -1074:=rfl
 have hf:(Ieee.double.fractionBits:Int)=52:=rfl
 have word:∀r:Nat,(r:Int)≤(k+1023)*4503599627370496→C3 (Ieee.Format.word Ieee.double neg r) k∧(neg=false→Ieee.Format.word Ieee.double neg r<9223372036854775808):=fun r hr=>by
  unfold Ieee.Format.word
  rw [hsw]
  cases neg with
  |true=>rw [if_pos rfl];exact ⟨⟨by omega,by omega,k1,k2⟩,fun q=>by cases q⟩
  |false=>rw [if_neg (by decide)];exact ⟨⟨by omega,by omega,k1,k2⟩,fun _=>by omega⟩
 have h0:2 ^ L≠0:=by have:=Nat.pow_pos (n:=L) (show 0<2 by decide);omega
 refine (?_:∀E,Ieee.Format.nearest Ieee.double neg (2 ^ L) place=E→C3 E k∧(neg=false→E<9223372036854775808)) _ rfl
 intro E hE
 unfold Ieee.Format.nearest at hE
 rw [if_neg h0,hb,hi,hl,hf,Nat.log2_two_pow] at hE
 have hlast:max (place+(L:Int)-52) (-1074)=k-52:=by omega
 have hE:Ieee.Format.word Ieee.double neg (min ((max (place+(L:Int)-52) (-1074) - -1074).toNat*4503599627370496+Ieee.Toward.even.cut neg (2 ^ L<<<(place-max (place+(L:Int)-52) (-1074)).toNat) (max (place+(L:Int)-52) (-1074)-place).toNat) 9218868437227405312)=E:=hE
 rw [hlast] at hE
 have hc:Ieee.Toward.even.cut neg (2 ^ L<<<(place-(k-52)).toNat) (k-52-place).toNat=4503599627370496:=by
  rw [Nat.shiftLeft_eq,← Nat.pow_add]
  by_cases c:k-52≤place
  ·rw [show (k-52-place).toNat=0 by omega,Rq,show L+(place-(k-52)).toNat=52 by omega]
  ·rw [show (place-(k-52)).toNat=0 by omega,Nat.add_zero,gQ neg (by omega),show L-(k-52-place).toNat=52 by omega]
 rw [hc] at hE
 rw [← hE]
 refine word _ (Int.le_trans (Int.ofNat_le.2 (Nat.min_le_left _ _)) ?_)
 omega
theorem M8 (neg:Bool) {mag p q:Nat} {place k:Int} (h:mag*2 ^ p≤2 ^ q) (hk:(p:Int)-place=q-k) (k1: -1022≤k) (k2:k≤1023):C3 (Ieee.Format.nearest Ieee.double neg mag place) k∧(neg=false→Ieee.Format.nearest Ieee.double neg mag place<9223372036854775808):=by
 by_cases h0:mag=0
 ·exact J9 neg (fun e=>absurd h0 e) k1 k2
 rcases gE h0 h with c|⟨c,e⟩
 ·exact J9 neg (fun _=>by omega) k1 k2
 ·obtain ⟨L,hL⟩:∃L,mag.log2=L:=⟨_,rfl⟩
  rw [hL] at c e
  rw [e]
  exact lJ neg (by omega) k1 k2
theorem Gm {w:Nat} {k:Int} (h:C3 w k):∃(s:Bool) (m i:Nat),FloatKind.f64.decode w=.number s m ((i:Int)-1074)∧m*2 ^ i≤2 ^ (k+1074).toNat∧(w<9223372036854775808→s=false)∧(9223372036854775808≤w→s=true):=by
 obtain ⟨h1,h2,h3,h4⟩:=h
 have hsw:Ieee.double.signWeight=9223372036854775808:=rfl
 have hb:Ieee.double.binade=4503599627370496:=rfl
 have hi:Ieee.double.infRung=9218868437227405312:=rfl
 have hl:Ieee.double.leastPlace= -1074:=rfl
 have hs:w<9223372036854775808→(w / 9223372036854775808 % 2==1)=false:=fun hw=>by
  rw [show w / 9223372036854775808=0 by omega];rfl
 have hs':9223372036854775808≤w→(w / 9223372036854775808 % 2==1)=true:=fun hw=>by
  rw [show w / 9223372036854775808=1 by omega];rfl
 show ∃(s:Bool) (m i:Nat),Ieee.Format.read Ieee.double w=_∧_
 unfold Ieee.Format.read
 rw [hsw,hb,hi,hl]
 generalize hr:w % 9223372036854775808=r at*
 by_cases c1:r<4503599627370496
 ·rw [if_pos c1]
  refine ⟨_,r,0,rfl,?_,hs,hs'⟩
  rw [Nat.pow_zero,Nat.mul_one]
  have:=F0 (show 52≤(k+1074).toNat by omega)
  omega
 ·rw [if_neg c1,if_pos (by omega)]
  refine ⟨_,4503599627370496+r % 4503599627370496,r / 4503599627370496-1,?_,?_,hs,hs'⟩
  ·congr 1
  ·obtain ⟨e,he⟩:∃e,r / 4503599627370496-1=e:=⟨_,rfl⟩
   rw [he]
   by_cases c2:r / 4503599627370496≤(k+1022).toNat
   ·have q1:(4503599627370496+r % 4503599627370496)*2 ^ e≤2 ^ 53*2 ^ e:=Nat.mul_le_mul_right _ (by omega)
    rw [← Nat.pow_add] at q1
    exact Nat.le_trans q1 (F0 (by omega))
   ·rw [show r % 4503599627370496=0 by omega,Nat.add_zero]
    have q1:4503599627370496*2 ^ e=2 ^ (52+e):=by rw [Nat.pow_add]
    rw [q1]
    exact F0 (by omega)
theorem Fg {x y:Nat} {a b:Int} (hx:C3 x a) (hy:C3 y b) (k1: -1022≤a+b) (k2:a+b≤1023):∃r,A0 x y=some r∧C3 r (a+b)∧((x<9223372036854775808↔y<9223372036854775808)→r<9223372036854775808):=by
 have ha:=hx.2.2.1
 have hb:=hy.2.2.1
 obtain ⟨s,m,i,h1,h2,h3,h4⟩:=Gm hx
 obtain ⟨t,n,j,g1,g2,g3,g4⟩:=Gm hy
 have h1:Ieee.Format.read Ieee.double x=_:=h1
 have g1:Ieee.Format.read Ieee.double y=_:=g1
 unfold A0
 show ∃r,(((Ieee.Format.read Ieee.double x).product (Ieee.Format.read Ieee.double y)).map (Ieee.Format.write Ieee.double))=some r∧_
 rw [h1,g1]
 have hm:m*n*2 ^ (i+j)≤2 ^ ((a+1074).toNat+(b+1074).toNat):=by
  rw [Nat.pow_add,Nat.pow_add]
  have:=Nat.mul_le_mul h2 g2
  rw [show m*n*(2 ^ i*2 ^ j)=m*2 ^ i*(n*2 ^ j) by ac_rfl]
  exact this
 obtain ⟨q1,q2⟩:=M8 (s ^^ t) (place:=((i:Int)-1074)+((j:Int)-1074)) (k:=a+b) hm (by omega) k1 k2
 refine ⟨_,rfl,q1,fun u=>q2 ?_⟩
 rcases Nat.lt_or_ge x 9223372036854775808 with c|c
 ·rw [h3 c,g3 (u.1 c)];rfl
 ·have:9223372036854775808≤y:=Nat.le_of_not_lt fun q=>by have:=u.2 q;omega
  rw [h4 c,g4 this];rfl
theorem Abw {s t:Bool} {m n i j A B C:Nat} {base:Int} (hbase:min ((i:Int)-1074) ((j:Int)-1074)=base) (h2:m*2 ^ i≤2 ^ A) (g2:n*2 ^ j≤2 ^ B) (hA:A≤C) (hB:B≤C):(Ieee.signed s m ((i:Int)-1074-base).toNat+Ieee.signed t n ((j:Int)-1074-base).toNat).natAbs*2 ^ min i j≤2 ^ (C+1):=by
 have e3:=H0 s m ((i:Int)-1074-base).toNat
 have e4:=H0 t n ((j:Int)-1074-base).toNat
 have h:=Int.natAbs_add_le (Ieee.signed s m ((i:Int)-1074-base).toNat) (Ieee.signed t n ((j:Int)-1074-base).toNat)
 rw [e3,e4,Nat.shiftLeft_eq,Nat.shiftLeft_eq] at h
 refine Nat.le_trans (Nat.mul_le_mul_right _ h) ?_
 rw [Nat.add_mul,Nat.mul_assoc,Nat.mul_assoc,← Nat.pow_add,← Nat.pow_add,show ((i:Int)-1074-base).toNat+min i j=i by omega,show ((j:Int)-1074-base).toNat+min i j=j by omega,Nat.pow_succ]
 have:=F0 hA
 have:=F0 hB
 omega
theorem Ts {s t:Bool} {m n i j:Nat} {a b:Int} (h2:m*2 ^ i≤2 ^ (a+1074).toNat) (g2:n*2 ^ j≤2 ^ (b+1074).toNat) (ka: -1022≤a) (kb: -1022≤b) (k2:max a b+1≤1023):∃r,(Ieee.Datum.sum (.number s m ((i:Int)-1074)) (.number t n ((j:Int)-1074))).map (Ieee.Format.write Ieee.double)=some r∧C3 r (max a b+1)∧(s=false→t=false→r<9223372036854775808):=by
 obtain ⟨base,hbase⟩:∃base:Int,min ((i:Int)-1074) ((j:Int)-1074)=base:=⟨_,rfl⟩
 obtain ⟨Og,htot⟩:∃Og:Int,Ieee.signed s m ((i:Int)-1074-base).toNat+Ieee.signed t n ((j:Int)-1074-base).toNat=Og:=⟨_,rfl⟩
 have hval:(Ieee.Datum.sum (.number s m ((i:Int)-1074)) (.number t n ((j:Int)-1074))).map (Ieee.Format.write Ieee.double)=some (Ieee.Format.nearest Ieee.double (if Og=0 then s && t else decide (Og<0)) Og.natAbs base):=by
  subst hbase
  subst htot
  rfl
 have hm:=Abw (s:=s) (t:=t) hbase h2 g2 (C:=(max a b+1074).toNat) (by omega) (by omega)
 rw [htot] at hm
 obtain ⟨q1,q2⟩:=M8 (if Og=0 then s && t else decide (Og<0)) (place:=base) (k:=max a b+1) hm (by omega) (by omega) k2
 refine ⟨_,hval,q1,fun hs ht=>q2 ?_⟩
 subst hs
 subst ht
 by_cases h0:Og=0
 ·rw [if_pos h0];rfl
 ·rw [if_neg h0]
  refine decide_eq_false ?_
  rw [← htot]
  unfold Ieee.signed
  generalize m<<<((i:Int)-1074-base).toNat=X
  generalize n<<<((j:Int)-1074-base).toNat=Y
  rw [if_neg (by decide),if_neg (by decide)]
  omega
theorem Ep {x y:Nat} {a b:Int} (hx:C3 x a) (hy:C3 y b) (k2:max a b+1≤1023):∃r,Be x y=some r∧C3 r (max a b+1)∧(x<9223372036854775808→y<9223372036854775808→r<9223372036854775808):=by
 have ha:=hx.2.2.1
 have hb:=hy.2.2.1
 obtain ⟨s,m,i,h1,h2,h3,-⟩:=Gm hx
 obtain ⟨t,n,j,g1,g2,g3,-⟩:=Gm hy
 have h1:Ieee.Format.read Ieee.double x=_:=h1
 have g1:Ieee.Format.read Ieee.double y=_:=g1
 unfold Be
 show ∃r,((Ieee.Format.read Ieee.double x).sum (Ieee.Format.read Ieee.double y)).map (Ieee.Format.write Ieee.double)=some r∧_
 rw [h1,g1]
 obtain ⟨r,q1,q2,q3⟩:=Ts (s:=s) (t:=t) h2 g2 ha hb k2
 exact ⟨r,q1,q2,fun u v=>q3 (h3 u) (g3 v)⟩
theorem Ov {x y:Nat} {a b:Int} (hx:C3 x a) (hy:C3 y b) (k2:max a b+1≤1023):∃r,D2 x y=some r∧C3 r (max a b+1):=by
 have ha:=hx.2.2.1
 have hb:=hy.2.2.1
 obtain ⟨s,m,i,h1,h2,h3,-⟩:=Gm hx
 obtain ⟨t,n,j,g1,g2,g3,-⟩:=Gm hy
 have h1:Ieee.Format.read Ieee.double x=_:=h1
 have g1:Ieee.Format.read Ieee.double y=_:=g1
 unfold D2
 show ∃r,((Ieee.Format.read Ieee.double x).sum (Ieee.Format.read Ieee.double y).opposite).map (Ieee.Format.write Ieee.double)=some r∧_
 rw [h1,g1]
 obtain ⟨r,q1,q2,-⟩:=Ts (s:=s) (t:= !t) h2 g2 ha hb k2
 exact ⟨r,q1,q2⟩
def iV (w:Nat) (lo:Int):Prop:=(lo+1023)*4503599627370496≤((w % 9223372036854775808:Nat):Int)∧-1022≤lo
theorem Kh {w:Nat} {k lo:Int} (h:C3 w k) (hl:iV w lo):∃(s:Bool) (m i:Nat),FloatKind.f64.decode w=.number s m ((i:Int)-1074)∧m≠0∧lo≤(i:Int)-1074+m.log2∧(w<9223372036854775808→s=false):=by
 obtain ⟨h1,h2,h3,h4⟩:=h
 obtain ⟨l1,l2⟩:=hl
 have hsw:Ieee.double.signWeight=9223372036854775808:=rfl
 have hb:Ieee.double.binade=4503599627370496:=rfl
 have hi:Ieee.double.infRung=9218868437227405312:=rfl
 have hl:Ieee.double.leastPlace= -1074:=rfl
 have hs:w<9223372036854775808→(w / 9223372036854775808 % 2==1)=false:=fun hw=>by
  rw [show w / 9223372036854775808=0 by omega];rfl
 show ∃(s:Bool) (m i:Nat),Ieee.Format.read Ieee.double w=_∧_
 unfold Ieee.Format.read
 rw [hsw,hb,hi,hl]
 generalize hr:w % 9223372036854775808=r at*
 rw [if_neg (show ¬r<4503599627370496 by omega),if_pos (by omega)]
 refine ⟨_,4503599627370496+r % 4503599627370496,r / 4503599627370496-1,?_,by omega,?_,hs⟩
 ·congr 1
 ·have:52≤(4503599627370496+r % 4503599627370496).log2:=(Nat.le_log2 (by omega)).2 (by omega)
  omega
theorem yB (neg:Bool) (n drop:Nat):n / 2 ^ min drop (n.log2+2)≤Ieee.Toward.even.cut neg n drop:=by
 unfold Ieee.Toward.cut
 rw [Nat.one_shiftLeft]
 show _≤n / 2 ^ min drop (n.log2+2)+Bool.toNat _
 exact Nat.le_add_right _ _
theorem Xn (neg:Bool) {mag:Nat} {place lo:Int} (h0:mag≠0) (h:lo≤place+mag.log2) (k1: -1022≤lo) (k2:lo≤1023):iV (Ieee.Format.nearest Ieee.double neg mag place) lo:=by
 have hsw:Ieee.double.signWeight=9223372036854775808:=rfl
 have hb:Ieee.double.binade=4503599627370496:=rfl
 have hi:Ieee.double.infRung=9218868437227405312:=rfl
 have hl:Ieee.double.leastPlace= -1074:=rfl
 have hf:(Ieee.double.fractionBits:Int)=52:=rfl
 have word:∀r:Nat,(lo+1023)*4503599627370496≤(r:Int)→r<9223372036854775808→iV (Ieee.Format.word Ieee.double neg r) lo:=fun r hr hr2=>by
  unfold Ieee.Format.word
  rw [hsw]
  cases neg with
  |true=>rw [if_pos rfl];exact ⟨by omega,k1⟩
  |false=>rw [if_neg (by decide)];exact ⟨by omega,k1⟩
 refine (?_:∀E,Ieee.Format.nearest Ieee.double neg mag place=E→iV E lo) _ rfl
 intro E hE
 unfold Ieee.Format.nearest at hE
 rw [if_neg h0,hb,hi,hl,hf] at hE
 have hle:2 ^ mag.log2≤mag:=Nat.log2_self_le h0
 obtain ⟨L,hL⟩:∃L:Nat,mag.log2=L:=⟨_,rfl⟩
 rw [hL] at h hE hle
 have hlast:max (place+(L:Int)-52) (-1074)=place+L-52:=by omega
 have hE:Ieee.Format.word Ieee.double neg (min ((max (place+(L:Int)-52) (-1074) - -1074).toNat*4503599627370496+Ieee.Toward.even.cut neg (mag<<<(place-max (place+(L:Int)-52) (-1074)).toNat) (max (place+(L:Int)-52) (-1074)-place).toNat) 9218868437227405312)=E:=hE
 rw [hlast] at hE
 have hc:4503599627370496≤Ieee.Toward.even.cut neg (mag<<<(place-(place+L-52)).toNat) (place+L-52-place).toNat:=by
  by_cases c:L≤52
  ·rw [show (place+L-52-place).toNat=0 by omega,Rq,Nat.shiftLeft_eq]
   have e1:2 ^ L*2 ^ (place-(place+L-52)).toNat≤mag*2 ^ (place-(place+L-52)).toNat:=Nat.mul_le_mul_right _ hle
   rw [← Nat.pow_add,show L+(place-(place+L-52)).toNat=52 by omega] at e1
   exact e1
  ·rw [show (place-(place+L-52)).toNat=0 by omega,Nat.shiftLeft_zero]
   refine Nat.le_trans ?_ (yB neg mag _)
   rw [hL,show min (place+(L:Int)-52-place).toNat (L+2)=L-52 by omega,Nat.le_div_iff_mul_le (Nat.pow_pos (by decide))]
   have e1:4503599627370496*2 ^ (L-52)=2 ^ L:=by
    rw [show (4503599627370496:Nat)=2 ^ 52 from rfl,← Nat.pow_add,show 52+(L-52)=L by omega]
   rw [e1]
   exact hle
 generalize Ieee.Toward.even.cut neg (mag<<<(place-(place+L-52)).toNat) (place+L-52-place).toNat=K at*
 rw [← hE]
 clear hE hsw hb hi hl hf hlast hle
 obtain ⟨A,hA⟩:∃A:Nat,(place+(L:Int)-52 - -1074).toNat=A:=⟨_,rfl⟩
 have hA2:(A:Int)=place+L+1022:=by omega
 rw [hA]
 clear hA
 have hlo:(lo+1023)*4503599627370496≤((A*4503599627370496+K:Nat):Int):=by
  rw [Int.natCast_add,Int.natCast_mul]
  omega
 generalize A*4503599627370496+K=Z at*
 by_cases c:Z≤9218868437227405312
 ·rw [Nat.min_eq_left c]
  exact word Z hlo (by omega)
 ·rw [Nat.min_eq_right (by omega)]
  exact word 9218868437227405312 (by omega) (by decide)
theorem cI {x y:Nat} {a b lo:Int} (hx:C3 x a) (hy:C3 y b) (k2:max a b+1≤1023) (px:x<9223372036854775808) (py:y<9223372036854775808) (hl:iV y lo) (k3:lo≤1023):∃r,Be x y=some r∧C3 r (max a b+1)∧r<9223372036854775808∧iV r lo:=by
 obtain ⟨r,q1,q2,q3⟩:=Ep hx hy k2
 refine ⟨r,q1,q2,q3 px py,?_⟩
 obtain ⟨s,m,i,h1,-,h3,-⟩:=Gm hx
 obtain ⟨t,n,j,g1,g2,g3,g4⟩:=Kh hy hl
 have hs:=h3 px
 have ht:=g4 py
 subst hs
 subst ht
 have h1:Ieee.Format.read Ieee.double x=_:=h1
 have g1:Ieee.Format.read Ieee.double y=_:=g1
 obtain ⟨base,hbase⟩:∃base:Int,min ((i:Int)-1074) ((j:Int)-1074)=base:=⟨_,rfl⟩
 obtain ⟨Og,htot⟩:∃Og:Int,Ieee.signed false m ((i:Int)-1074-base).toNat+Ieee.signed false n ((j:Int)-1074-base).toNat=Og:=⟨_,rfl⟩
 have hval:(Ieee.Datum.sum (.number false m ((i:Int)-1074)) (.number false n ((j:Int)-1074))).map (Ieee.Format.write Ieee.double)=some (Ieee.Format.nearest Ieee.double (if Og=0 then false && false else decide (Og<0)) Og.natAbs base):=by
  subst hbase
  subst htot
  rfl
 unfold Be at q1
 have q1:((Ieee.Format.read Ieee.double x).sum (Ieee.Format.read Ieee.double y)).map (Ieee.Format.write Ieee.double)=some r:=q1
 rw [h1,g1,hval] at q1
 rw [← Option.some.inj q1]
 have e1:Og.natAbs=m<<<((i:Int)-1074-base).toNat+n<<<((j:Int)-1074-base).toNat:=by
  rw [← htot]
  unfold Ieee.signed
  rw [if_neg (by decide),if_neg (by decide)]
  generalize m<<<((i:Int)-1074-base).toNat=X
  generalize n<<<((j:Int)-1074-base).toNat=Y
  omega
 have e2:2 ^ (n.log2+((j:Int)-1074-base).toNat)≤Og.natAbs:=by
  rw [e1,Nat.shiftLeft_eq n,Nat.pow_add]
  exact Nat.le_trans (Nat.mul_le_mul_right _ (Nat.log2_self_le g2)) (Nat.le_add_left _ _)
 have e3:Og.natAbs≠0:=by have:=Nat.pow_pos (n:=n.log2+((j:Int)-1074-base).toNat) (show 0<2 by decide);omega
 have e4:=(Nat.le_log2 e3).2 e2
 exact Xn _ e3 (by omega) hl.2 k3
def vm (r:Nat):Nat:=if r<4503599627370496 then r else 4503599627370496+r % 4503599627370496
def vi (r:Nat):Nat:=if r<4503599627370496 then 0 else r / 4503599627370496-1
theorem Oc {r:Nat} (h:r<9218868437227405312):FloatKind.f64.decode r=.number false (vm r) ((vi r:Int)-1074):=by
 have hsw:Ieee.double.signWeight=9223372036854775808:=rfl
 have hb:Ieee.double.binade=4503599627370496:=rfl
 have hi:Ieee.double.infRung=9218868437227405312:=rfl
 have hl:Ieee.double.leastPlace= -1074:=rfl
 show Ieee.Format.read Ieee.double r=_
 unfold Ieee.Format.read vm vi
 rw [hsw,hb,hi,hl,show r % 9223372036854775808=r by omega,show r / 9223372036854775808=0 by omega]
 by_cases c:r<4503599627370496
 ·rw [if_pos c,if_pos c,if_pos c];rfl
 ·rw [if_neg c,if_neg c,if_neg c,if_pos h];rfl
theorem Xe {r r':Nat} (h:r<r'):vm r*2 ^ vi r<vm r'*2 ^ vi r':=by
 unfold vm vi
 by_cases c:r<4503599627370496
 ·rw [if_pos c,if_pos c,Nat.pow_zero,Nat.mul_one]
  by_cases c':r'<4503599627370496
  ·rw [if_pos c',if_pos c',Nat.pow_zero,Nat.mul_one];exact h
  ·rw [if_neg c',if_neg c']
   have p:1≤2 ^ (r' / 4503599627370496-1):=Nat.pow_pos (by decide)
   have:(4503599627370496+r' % 4503599627370496)*1≤(4503599627370496+r' % 4503599627370496)*2 ^ (r' / 4503599627370496-1):=Nat.mul_le_mul_left _ p
   omega
 ·rw [if_neg c,if_neg c,if_neg (show ¬r'<4503599627370496 by omega),if_neg (show ¬r'<4503599627370496 by omega)]
  by_cases e:r / 4503599627370496=r' / 4503599627370496
  ·rw [e]
   exact Nat.mul_lt_mul_of_pos_right (by omega) (Nat.pow_pos (by decide))
  ·have q1:(4503599627370496+r % 4503599627370496)*2 ^ (r / 4503599627370496-1)<2 ^ 53*2 ^ (r / 4503599627370496-1):=Nat.mul_lt_mul_of_pos_right (by omega) (Nat.pow_pos (by decide))
   have q2:2 ^ 52*2 ^ (r' / 4503599627370496-1)≤(4503599627370496+r' % 4503599627370496)*2 ^ (r' / 4503599627370496-1):=Nat.mul_le_mul_right _ (by omega)
   rw [← Nat.pow_add] at q1 q2
   have q3:=F0 (show 53+(r / 4503599627370496-1)≤52+(r' / 4503599627370496-1) by omega)
   omega
theorem nK {m n i j:Nat} (h:m*2 ^ i<n*2 ^ j):m<<<((i:Int)-1074-min ((i:Int)-1074) ((j:Int)-1074)).toNat<n<<<((j:Int)-1074-min ((i:Int)-1074) ((j:Int)-1074)).toNat:=by
 rw [Nat.shiftLeft_eq,Nat.shiftLeft_eq]
 refine Nat.lt_of_mul_lt_mul_right (a:=2 ^ min i j) ?_
 rw [Nat.mul_assoc,Nat.mul_assoc,← Nat.pow_add,← Nat.pow_add]
 rw [show ((i:Int)-1074-min ((i:Int)-1074) ((j:Int)-1074)).toNat+min i j=i by omega,show ((j:Int)-1074-min ((i:Int)-1074) ((j:Int)-1074)).toNat+min i j=j by omega]
 exact h
theorem aL {x y:Nat} (h:x<y) (hy:y<9218868437227405312):Ng x y=some .lt:=by
 rw [Kq (Oc (show x<9218868437227405312 by omega)) (Oc hy)]
 congr 1
 rw [Int.compare_eq_lt]
 have:=nK (Xe h)
 unfold Ieee.signed
 rw [if_neg (by decide),if_neg (by decide)]
 exact Int.ofNat_lt.2 this
theorem My {x y:Nat} (h:y<x) (hx:x<9218868437227405312):Ng x y=some .gt:=by
 rw [Kq (Oc hx) (Oc (show y<9218868437227405312 by omega))]
 congr 1
 rw [Int.compare_eq_gt]
 have:=nK (Xe h)
 rw [show min ((vi y:Int)-1074) ((vi x:Int)-1074)=min ((vi x:Int)-1074) ((vi y:Int)-1074) by omega] at this
 unfold Ieee.signed
 rw [if_neg (by decide),if_neg (by decide)]
 exact Int.ofNat_lt.2 this
end Go.Proofs.YtmhnnmfcjdnlhaaGreatDoor
