/- A part. -/
import Derived.Test.YtmhnnmfcjdnlhaaGreatDoorAt1
import Derived.Test.YtmhnnmfcjdnlhaaGreatDoorFl5
set_option linter.unusedVariables false
set_option linter.unusedSimpArgs false
set_option maxHeartbeats 4000000
namespace Go.Proofs.YtmhnnmfcjdnlhaaGreatDoor
theorem Us (n:Nat) {x:Nat} (h:C3 x 30) (hx:x<9223372036854775808):∃r,aN n x=some r∧C3 r 45:=by
 have hi:=h.m7 hx
 unfold aN
 cases c1:pU x 4604119971053405471 with
 |true=>
  have:=yY hi c1
  obtain ⟨r,e,f⟩:=O2 n (x:=x) (C3.of_le (k:=4) this (by decide) (by decide) (by decide) (by decide))
  rw [cond_true,e]
  exact ⟨r,rfl,f.up (by decide) (by decide)⟩
 |false=>
  rw [cond_false]
  cases c2:Uz x 4612618744449965542 with
  |true=>
   have q:=zJ (by decide) c2
   have l:iV x 1:=⟨by omega,by decide⟩
   obtain ⟨t,m,j,q1,q2,q3,-⟩:=Kh h l
   obtain ⟨u,eu,fu,-⟩:=L8 (Du 4607182418800017408 0 (by decide+kernel)) q1 q2 q3 (by decide) (by decide)
   obtain ⟨r,e,f⟩:=O2 n (x:=u) (fu.up (by decide) (by decide))
   obtain ⟨v,ev,fv⟩:=Ov (Du 4609753056924675352 1 (by decide+kernel)) f (by decide)
   obtain ⟨w,ew,fw,-⟩:=Ep fv (Du 4364452196894661639 0 (by decide+kernel)) (by decide)
   rw [cond_true,eu,Option.bind_some,e,Option.bind_some,ev,Option.bind_some,ew]
   exact ⟨w,rfl,fw.up (by decide) (by decide)⟩
  |false=>
   have q:=Z2 hi c2
   have h2:C3 x 2:=C3.of_le (k:=2) q (by decide) (by decide) (by decide) (by decide)
   obtain ⟨a,ea,fa⟩:=Ov h2 (Du 4607182418800017408 0 (by decide+kernel)) (by decide)
   obtain ⟨b,eb,fb,pb,lb⟩:=cI h2 (Du 4607182418800017408 0 (by decide+kernel)) (by decide) hx (by decide) (lo:=0) (by unfold iV;decide+kernel) (by decide)
   obtain ⟨t,m,j,q1,q2,q3,-⟩:=Kh fb lb
   obtain ⟨u,eu,fu,-⟩:=L8 fa q1 q2 q3 (by decide) (by decide)
   obtain ⟨r,e,f⟩:=O2 n (x:=u) (fu.up (by decide) (by decide))
   obtain ⟨v,ev,fv,-⟩:=Ep (Du 4605249457297304856 0 (by decide+kernel)) f (by decide)
   obtain ⟨w,ew,fw,-⟩:=Ep fv (Du 4359948597267291143 0 (by decide+kernel)) (by decide)
   rw [cond_false,ea,Option.bind_some,eb,Option.bind_some,eu,Option.bind_some,e,Option.bind_some,ev,Option.bind_some,ew]
   exact ⟨w,rfl,fw.up (by decide) (by decide)⟩
theorem mF {x:Nat} (h:x<18446744073709551616) (hx:9223372036854775808≤x):Ic x<9223372036854775808:=by
 have e:Ic x=x ^^^ 2 ^ 63:=rfl
 have d:(x ^^^ 2 ^ 63) / 2 ^ 63=x / 2 ^ 63 ^^^ 2 ^ 63 / 2 ^ 63:=Nat.xor_div_two_pow
 rw [show x / 2 ^ 63=1 by omega,show 2 ^ 63 / 2 ^ 63=1 by decide,Nat.xor_self] at d
 rw [e]
 omega
theorem nF (n:Nat) {x:Nat} (h:C3 x 30):∃r,g90 n x=some r∧C3 r 45:=by
 unfold g90 g99
 cases c1:iN x 0 with
 |true=>exact ⟨x,rfl,h.up (by decide) (by decide)⟩
 |false=>
  rw [cond_false]
  cases c2:Uz x 0 with
  |true=>
   obtain ⟨r,e,f⟩:=Us n h (tZ h c2)
   rw [cond_true,e]
   exact ⟨r,rfl,f⟩
  |false=>
   have hx:9223372036854775808≤x:=Nat.le_of_not_lt fun q=>by
    rw [Z0 h q c1] at c2;cases c2
   obtain ⟨r,e,f⟩:=Us n (Qw h) (mF h.1 hx)
   rw [cond_false,e]
   exact ⟨_,rfl,Qw f⟩
theorem j5 (n:Nat) {c a:Nat} {k:Int} (hc:C3 c k) (ha:a<18446744073709551616):∃r,Z8 n c a=some r∧C3 r k:=by
 unfold Z8
 have e1:G3 .u64 (c:Int) 9223372036854775808=((c &&& 9223372036854775807:Nat):Int):=O5 (Y:=9223372036854775808) hc.1 (by decide)
 have e2:E2 .u64 (a:Int) 9223372036854775808=((a &&& 9223372036854775808:Nat):Int):=Q5 (Y:=9223372036854775808) ha (by decide)
 have l1:c &&& 9223372036854775807≤9223372036854775807:=Nat.and_le_right
 have l2:a &&& 9223372036854775808≤9223372036854775808:=Nat.and_le_right
 rw [e1,e2,eD (by omega) (by omega),Int.toNat_natCast]
 refine ⟨_,rfl,Nat.or_lt_two_pow (n:=64) (by omega) (by omega),?_,hc.2.2.1,hc.2.2.2⟩
 have m1:((c &&& 9223372036854775807)|||(a &&& 9223372036854775808)) % 2 ^ 63=c % 2 ^ 63:=by
  rw [Nat.or_mod_two_pow,Nat.and_mod_two_pow (a:=a),show 9223372036854775808 % 2 ^ 63=0 from rfl,Nat.and_zero,Nat.or_zero,show (9223372036854775807:Nat)=2 ^ 63-1 from rfl,Nat.and_two_pow_sub_one_eq_mod,Nat.mod_mod]
 show ((((c &&& 9223372036854775807)|||(a &&& 9223372036854775808)) % 2 ^ 63:Nat):Int)≤_
 rw [m1]
 exact hc.2.1
theorem Uu (n:Nat) (x:Nat) (z:Int):∃b,fV n x z=some b:=by
 unfold fV g94
 cases (z==0)<;>cases decide (z<0)<;>exact ⟨_,rfl⟩
theorem pV {z:Int} (h:z≠0):iV (Jn z) 0:=by
 unfold Jn
 show iV (Ieee.Format.nearest Ieee.double (decide (z<0)) z.natAbs 0) 0
 exact Xn _ (by omega) (by omega) (by decide) (by decide)
theorem gY (n:Nat) (X Y:Int) (hX: -2000000≤X∧X≤2000000) (hY: -2000000≤Y∧Y≤2000000):∃r,xV n (Jn X) (Jn Y)=some r∧C3 r 46:=by
 have hx:=(U4 (z:=X) (e:=21) (by omega) (by decide)).1
 have hy:=(U4 (z:=Y) (e:=21) (by omega) (by decide)).1
 have nan:∀{w:Nat} {k:Int},C3 w k→oQ n w=some false:=fun hw=>by
  unfold oQ fNe
  rw [Xm hw];rfl
 unfold xV g75
 rw [nan hx,Option.bind_some,cond_false,nan hy,Option.bind_some,cond_false]
 have fin:∀{m:Option Nat},(∃r,m=some r∧C3 r 46)→∃r,(m.bind fun x=>some x)=some r∧C3 r 46:=fun ⟨r,e,f⟩=>⟨r,by rw [e];rfl,f⟩
 have cs:∀c k,k≤46→C3 c k→∃r,Z8 n c (Jn X)=some r∧C3 r 46:=fun c k hk hc=>by
  obtain ⟨r,e,f⟩:=j5 n hc hx.1
  exact ⟨r,e,f.up hk (by decide)⟩
 refine fin ?_
 have k0:C3 0 0:=⟨by decide,by decide,by decide,by decide⟩
 have kpi:C3 4614256656552045848 2:=Du 4614256656552045848 2 (by decide+kernel)
 have kh:C3 4609753056924675352 1:=Du 4609753056924675352 1 (by decide+kernel)
 have kq:C3 4605249457297304856 0:=Du 4605249457297304856 0 (by decide+kernel)
 have k3:C3 4612488097114038738 2:=Du 4612488097114038738 2 (by decide+kernel)
 cases iN (Jn X) 0 with
 |true=>
  rw [cond_true]
  cases uX (Jn Y) 0 with
  |true=>
   rw [cond_true]
   unfold g88
   rw [Option.bind_some]
   cases decide (IntKind.wrap .i64 ((Jn Y:Nat):Int)<0) with
   |false=>exact fin (cs 0 0 (by decide) k0)
   |true=>exact fin (cs _ 2 (by decide) kpi)
  |false=>exact fin (cs _ 2 (by decide) kpi)
 |false=>
  rw [cond_false]
  cases cy:iN (Jn Y) 0 with
  |true=>exact fin (cs _ 1 (by decide) kh)
  |false=>
   rw [cond_false]
   obtain ⟨b1,f1⟩:=Uu n (Jn Y) 0
   obtain ⟨b2,f2⟩:=Uu n (Jn Y) 1
   obtain ⟨b3,f3⟩:=Uu n (Jn X) 0
   rw [f1,Option.bind_some]
   cases b1 with
   |true=>
    rw [cond_true,f2,Option.bind_some]
    cases b2 with
    |true=>
     rw [cond_true,f3,Option.bind_some]
     cases b3 with
     |true=>exact fin (cs _ 0 (by decide) kq)
     |false=>exact fin (cs _ 0 (by decide) k0)
    |false=>
     rw [cond_false,f3,Option.bind_some]
     cases b3 with
     |true=>exact fin (cs _ 2 (by decide) k3)
     |false=>exact fin (cs _ 2 (by decide) kpi)
   |false=>
    rw [cond_false,f3,Option.bind_some]
    cases b3 with
    |true=>exact fin (cs _ 1 (by decide) kh)
    |false=>
     have hY0:Y≠0:=by
      rintro rfl
      rw [show iN (Jn 0) 0=true by decide+kernel] at cy;cases cy
     obtain ⟨t,m,j,q1,q2,q3,-⟩:=Kh hy (pV hY0)
     obtain ⟨u,eu,fu,-⟩:=L8 hx q1 q2 q3 (by decide) (by decide)
     obtain ⟨r,e,f⟩:=nF n (x:=u) (fu.up (by decide) (by decide))
     rw [cond_false,eu,Option.bind_some,e,Option.bind_some]
     cases xR (Jn Y) 0 with
     |false=>exact ⟨r,rfl,f.up (by decide) (by decide)⟩
     |true=>
      rw [cond_true]
      cases pU r 0 with
      |true=>
       obtain ⟨v,ev,fv,-⟩:=Ep f kpi (by decide)
       rw [cond_true,ev]
       exact ⟨v,rfl,fv.up (by decide) (by decide)⟩
      |false=>
       obtain ⟨v,ev,fv⟩:=Ov f kpi (by decide)
       rw [cond_false,ev]
       exact ⟨v,rfl,fv.up (by decide) (by decide)⟩
end Go.Proofs.YtmhnnmfcjdnlhaaGreatDoor
