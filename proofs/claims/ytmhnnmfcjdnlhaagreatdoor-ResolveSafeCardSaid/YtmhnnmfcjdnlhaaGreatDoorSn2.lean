/- A part. -/
import Derived.Test.YtmhnnmfcjdnlhaaGreatDoorSn0
import Derived.Test.YtmhnnmfcjdnlhaaGreatDoorX1G
set_option linter.unusedVariables false
set_option linter.unusedSimpArgs false
set_option maxRecDepth 100000
set_option maxHeartbeats 4000000
namespace Go.Proofs.YtmhnnmfcjdnlhaaGreatDoor
def sL (w:Nat):Int:=(((w % 9223372036854775808+4503599627370495) / 4503599627370496:Nat):Int)-1023
theorem D0 (w:Nat) (h:(Nat.blt w 18446744073709551616 && decide (-1022≤sL w) && decide (sL w≤1023))=true):C3 w (sL w):=by
 simp only [Bool.and_eq_true,decide_eq_true_eq] at h
 obtain ⟨⟨h1,h2⟩,h3⟩:=h
 have h1:=Nat.le_of_ble_eq_true h1
 refine ⟨h1,?_,h2,h3⟩
 unfold sL at*
 omega
theorem V5 {X s:Nat} (hs:s≤64):Vh .u64 (X:Int) (s:Int)=some ((X / 2 ^ s:Nat):Int):=by
 unfold Vh
 rw [if_neg (by omega)]
 congr 1
 show (X:Int).fdiv (2 ^ min (s:Int).toNat 64)=_
 rw [Int.toNat_natCast,Nat.min_eq_left hs,Int.fdiv_eq_ediv_of_nonneg _ (Int.le_of_lt (Int.pow_pos (show (0:Int)<2 by decide))),Int.natCast_ediv,Int.natCast_pow]
 rfl
theorem fT (n:Nat) {x:Nat} {a:Int} (h:C3 x a) (ha:0≤a) (ha2:a≤1000):∃r,g91 n x=some r∧C3 r (a+1):=by
 obtain ⟨h1,h2,h3,h4⟩:=h
 unfold g91
 have e1:Vh .u64 (x:Int) 52=some ((x / 4503599627370496:Nat):Int):=V5 (X:=x) (s:=52) (by decide)
 rw [e1,Option.bind_some]
 have e2:E2 .u64 ((x / 4503599627370496:Nat):Int) 2047=((x / 4503599627370496 % 2048:Nat):Int):=by
  rw [show (2047:Int)=((2047:Nat):Int) from rfl,Q5 (by omega) (by decide)]
  congr 1
  exact Nat.and_two_pow_sub_one_eq_mod _ 11
 rw [e2]
 obtain ⟨e,he⟩:∃e:Nat,x / 4503599627370496 % 2048=e:=⟨_,rfl⟩
 rw [he]
 have hsg:E2 .u64 (x:Int) 9223372036854775808=((x &&& 9223372036854775808:Nat):Int):=Q5 (Y:=9223372036854775808) h1 (by decide)
 have hsm:(x &&& 9223372036854775808) % 2 ^ 63=0:=by
  rw [Nat.and_mod_two_pow,show 9223372036854775808 % 2 ^ 63=0 from rfl,Nat.and_zero]
 have hsl:x &&& 9223372036854775808≤9223372036854775808:=Nat.and_le_right
 by_cases c1:(e:Int)<1023
 ·rw [decide_eq_true c1,cond_true,hsg]
  by_cases c2:(e:Int)=1022
  ·rw [beq_iff_eq.2 c2,cond_true,show (4607182418800017408:Int)=((4607182418800017408:Nat):Int) from rfl,eD (by omega) (by decide),Int.toNat_natCast]
   refine ⟨_,rfl,Nat.or_lt_two_pow (n:=64) (by omega) (by decide),?_,by omega,by omega⟩
   have:((x &&& 9223372036854775808)|||4607182418800017408) % 2 ^ 63=4607182418800017408:=by
    rw [Nat.or_mod_two_pow,hsm,Nat.zero_or]
   show ((((x &&& 9223372036854775808)|||4607182418800017408) % 2 ^ 63:Nat):Int)≤_
   rw [this]
   omega
  ·rw [beq_eq_false_iff_ne.2 c2,cond_false,Int.toNat_natCast]
   refine ⟨_,rfl,by omega,?_,by omega,by omega⟩
   show (((x &&& 9223372036854775808) % 2 ^ 63:Nat):Int)≤_
   rw [hsm]
   omega
 ·rw [decide_eq_false c1,cond_false]
  by_cases c3:(e:Int)<1075
  ·rw [decide_eq_true c3,cond_true]
   have w1:IntKind.wrap .u64 ((e:Int)-1023)=((e-1023:Nat):Int):=by
    show ((e:Int)-1023) % (2 ^ 64:Int)=_
    omega
   rw [w1,show (2251799813685248:Int)=((2251799813685248:Nat):Int) from rfl,V5 (by omega),Option.bind_some,show (4503599627370495:Int)=((4503599627370495:Nat):Int) from rfl,V5 (by omega),Option.bind_some]
   have hA:2251799813685248 / 2 ^ (e-1023)≤2251799813685248:=Nat.div_le_self _ _
   have hB:4503599627370495 / 2 ^ (e-1023)≤4503599627370495:=Nat.div_le_self _ _
   generalize 2251799813685248 / 2 ^ (e-1023)=A at*
   generalize 4503599627370495 / 2 ^ (e-1023)=C at*
   have w2:IntKind.wrap .u64 ((x:Int)+(A:Int))=((x+A:Nat):Int):=by
    show ((x:Int)+A) % (2 ^ 64:Int)=_
    omega
   rw [w2,O5 (by omega) (by omega),Int.toNat_natCast]
   have l1:(x+A) &&& (18446744073709551615-C)≤x+A:=Nat.and_le_left
   refine ⟨_,rfl,by omega,?_,by omega,by omega⟩
   show ((((x+A) &&& (18446744073709551615-C)) % 2 ^ 63:Nat):Int)≤_
   rw [Nat.and_mod_two_pow]
   have l2:(x+A) % 2 ^ 63 &&& (18446744073709551615-C) % 2 ^ 63≤(x+A) % 2 ^ 63:=Nat.and_le_left
   have l3:(x+A) % 2 ^ 63=(x+A) % 9223372036854775808:=rfl
   omega
  ·rw [decide_eq_false c3,cond_false,Int.toNat_natCast]
   exact ⟨_,rfl,h1,by omega,by omega,by omega⟩
theorem rW (n:Nat) {x z:Nat} {a:Int} (h:C3 x a) (ha:a≤10) (hx:x<9223372036854775808) (hz:zrO x=some z) (hzf:C3 z 0):∃r,h9 n x=some r∧C3 r 10:=by
 have n1:oQ n x=some false:=by
  unfold oQ fNe
  rw [Xm h];rfl
 have n2:fV n x 0=some false:=by
  unfold fV g94
  have e:G3 .u64 (x:Int) 9223372036854775808=(x:Int):=by
   rw [show (9223372036854775808:Int)=((9223372036854775808:Nat):Int) from rfl,O5 (by omega) (by decide)]
   congr 1
   rw [show 18446744073709551615-9223372036854775808=2 ^ 63-1 from rfl,Nat.and_two_pow_sub_one_eq_mod]
   exact Nat.mod_eq_of_lt hx
  rw [show ((0:Int)==0)=true from rfl,cond_true,e,Option.bind_some,Int.toNat_natCast]
  unfold Uz
  rw [nB h (n:=9007199254740991) (j:=2045) (by decide+kernel) (by decide) (by have:Nat.log2 9007199254740991=52:=(by decide+kernel);omega)]
  rfl
 have n3:xR x 0=false:=by
  unfold xR
  exact beq_eq_false_iff_ne.2 (jQ h hx)
 have n4:uX x 4737786807993761792=false:=by
  unfold uX
  rw [nB h (n:=4503599627370496) (j:=1051) (by decide+kernel) (by decide) (by have:Nat.log2 4503599627370496=52:=(by decide+kernel);omega)]
  rfl
 unfold h9
 refine Oo (Lo h ⟨ha,by decide⟩) ?_
 rw [n1,Option.bind_some,cond_false,n2,Option.bind_some,cond_false,n3,cond_false,n4,cond_false]
 unfold zrO at hz
 obtain ⟨x3,e3,hz⟩:=Option.bind_eq_some_iff.1 hz
 obtain ⟨j,ej,hz⟩:=Option.bind_eq_some_iff.1 hz
 rw [e3,Option.bind_some,ej,Option.bind_some]
 cases hb:(E2 .u64 j 1==1) with
 |true=>
  rw [hb,cond_true] at hz
  obtain ⟨y,ey,hz⟩:=Option.bind_eq_some_iff.1 hz
  unfold zO at hz
  obtain ⟨u1,p1,hz⟩:=Option.bind_eq_some_iff.1 hz
  obtain ⟨u2,p2,hz⟩:=Option.bind_eq_some_iff.1 hz
  obtain ⟨u3,p3,hz⟩:=Option.bind_eq_some_iff.1 hz
  obtain ⟨u4,p4,hz⟩:=Option.bind_eq_some_iff.1 hz
  obtain ⟨u5,p5,hz⟩:=Option.bind_eq_some_iff.1 hz
  rw [cond_true,ey,Option.bind_some,p1,Option.bind_some,p2,Option.bind_some,p3,Option.bind_some,p4,Option.bind_some,p5,Option.bind_some,hz,Option.bind_some]
  clear hz p1 p2 p3 p4 p5 ey ej e3 n1 n2 n3 n4 hb h
  repeat' first
   |exact Lo (by assumption) (by decide)
   |exact Lo (Qw (by assumption)) (by decide)
   |refine Oo ?_ ?_
   |(refine Yk (by first|assumption|exact D0 _ (by decide)) (by first|assumption|exact D0 _ (by decide)) (by decide) ?_;intro r hr)
   |(refine Xf (by first|assumption|exact D0 _ (by decide)) (by first|assumption|exact D0 _ (by decide)) (by decide) ?_;intro r hr)
   |(refine Xl (by first|assumption|exact D0 _ (by decide)) (by first|assumption|exact D0 _ (by decide)) (by decide) ?_;intro r hr)
 |false=>
  rw [hb,cond_false] at hz
  unfold zO at hz
  obtain ⟨u1,p1,hz⟩:=Option.bind_eq_some_iff.1 hz
  obtain ⟨u2,p2,hz⟩:=Option.bind_eq_some_iff.1 hz
  obtain ⟨u3,p3,hz⟩:=Option.bind_eq_some_iff.1 hz
  obtain ⟨u4,p4,hz⟩:=Option.bind_eq_some_iff.1 hz
  obtain ⟨u5,p5,hz⟩:=Option.bind_eq_some_iff.1 hz
  rw [cond_false,p1,Option.bind_some,p2,Option.bind_some,p3,Option.bind_some,p4,Option.bind_some,p5,Option.bind_some,hz,Option.bind_some]
  clear hz p1 p2 p3 p4 p5 ej e3 n1 n2 n3 n4 hb h
  repeat' first
   |exact Lo (by assumption) (by decide)
   |exact Lo (Qw (by assumption)) (by decide)
   |refine Oo ?_ ?_
   |(refine Yk (by first|assumption|exact D0 _ (by decide)) (by first|assumption|exact D0 _ (by decide)) (by decide) ?_;intro r hr)
   |(refine Xf (by first|assumption|exact D0 _ (by decide)) (by first|assumption|exact D0 _ (by decide)) (by decide) ?_;intro r hr)
   |(refine Xl (by first|assumption|exact D0 _ (by decide)) (by first|assumption|exact D0 _ (by decide)) (by decide) ?_;intro r hr)
end Go.Proofs.YtmhnnmfcjdnlhaaGreatDoor
