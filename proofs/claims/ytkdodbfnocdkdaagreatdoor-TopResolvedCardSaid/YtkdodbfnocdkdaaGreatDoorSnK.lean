/- Parts Sn0, Sn1, Sn2, Sn3. -/
import Derived.Test.YtkdodbfnocdkdaaGreatDoorFla
import Derived.Test.YtkdodbfnocdkdaaGreatDoorX1G
namespace Go.Proofs.YtkdodbfnocdkdaaGreatDoor
def xO (h:Nat):Option Nat:=(Cp (Kp (h:Int)) 4614256656552045848).bind fun x1=>Jy x1 4656722014701092864
def zO (x y:Nat):Option Nat:=(Cp y 4605249456957292544).bind fun a=>(F1 x a).bind fun b=>(Cp y 4495793288086814720).bind fun c=>(F1 b c).bind fun d=>(Cp y 4388835458085048688).bind fun e=>F1 d e
def zrO (x:Nat):Option Nat:=(Cp x 4608412980311869571).bind fun x3=>(Tu .u64 x3).bind fun j=>bif E6 .u64 j 1==1 then (D6 (Kp j) 4607182418800017408).bind fun y=>zO x y else zO x (Kp j)
def zOk (h:Nat):Bool:=match (xO h).bind zrO with
 |some z=>Nat.blt z 18446744073709551616 && Nat.ble (z % 9223372036854775808) 4607182418800017408
 |none=>false
end Go.Proofs.YtkdodbfnocdkdaaGreatDoor
set_option linter.unusedVariables false
set_option linter.unusedSimpArgs false
set_option maxRecDepth 100000
namespace Go.Proofs.YtkdodbfnocdkdaaGreatDoor
def Gy:Nat→Nat→Bool
 |0,_=>true
 |n+1,a=>zOk (a+n) && Gy n a
theorem l9:∀{n a:Nat},Gy n a=true→∀k,k<n→zOk (a+k)=true
 |0,a,_,k,hk=>by omega
 |n+1,a,h,k,hk=>by
  unfold Gy at h
  rw [Bool.and_eq_true] at h
  rcases Nat.lt_succ_iff_lt_or_eq.1 hk with q|rfl
  ·exact l9 h.2 k q
  ·exact h.1
theorem z_0:Gy 128 0=true:=by decide+kernel
theorem z_1:Gy 128 128=true:=by decide+kernel
theorem z_2:Gy 128 256=true:=by decide+kernel
theorem z_3:Gy 128 384=true:=by decide+kernel
theorem z_4:Gy 128 512=true:=by decide+kernel
theorem z_5:Gy 128 640=true:=by decide+kernel
theorem z_6:Gy 128 768=true:=by decide+kernel
theorem z_7:Gy 128 896=true:=by decide+kernel
theorem z_8:Gy 128 1024=true:=by decide+kernel
theorem z_9:Gy 128 1152=true:=by decide+kernel
theorem Aq5:Gy 128 1280=true:=by decide+kernel
theorem Are:Gy 128 1408=true:=by decide+kernel
theorem Arm:Gy 128 1536=true:=by decide+kernel
theorem Aru:Gy 128 1664=true:=by decide+kernel
theorem Ar2:Gy 128 1792=true:=by decide+kernel
theorem Asr:Gy 128 1920=true:=by decide+kernel
theorem Ara:Gy 128 2048=true:=by decide+kernel
theorem Aqz:Gy 128 2176=true:=by decide+kernel
theorem Arf:Gy 128 2304=true:=by decide+kernel
theorem Asx:Gy 128 2432=true:=by decide+kernel
theorem As0:Gy 128 2560=true:=by decide+kernel
theorem Arq:Gy 128 2688=true:=by decide+kernel
theorem Asb:Gy 128 2816=true:=by decide+kernel
theorem As5:Gy 128 2944=true:=by decide+kernel
theorem Aso:Gy 128 3072=true:=by decide+kernel
theorem Asd:Gy 128 3200=true:=by decide+kernel
theorem Arr:Gy 128 3328=true:=by decide+kernel
theorem Aro:Gy 128 3456=true:=by decide+kernel
theorem Ar0:Gy 128 3584=true:=by decide+kernel
theorem Ar1:Gy 128 3712=true:=by decide+kernel
theorem Asf:Gy 128 3840=true:=by decide+kernel
theorem Asc:Gy 128 3968=true:=by decide+kernel
theorem Aog (h:Nat) (hh:h<4096):zOk h=true:=by
 have key:∀b,b<32→Gy 128 (128*b)=true:=by
  intro b hb
  match b,hb with
  |0,_=>exact z_0
  |1,_=>exact z_1
  |2,_=>exact z_2
  |3,_=>exact z_3
  |4,_=>exact z_4
  |5,_=>exact z_5
  |6,_=>exact z_6
  |7,_=>exact z_7
  |8,_=>exact z_8
  |9,_=>exact z_9
  |10,_=>exact Aq5
  |11,_=>exact Are
  |12,_=>exact Arm
  |13,_=>exact Aru
  |14,_=>exact Ar2
  |15,_=>exact Asr
  |16,_=>exact Ara
  |17,_=>exact Aqz
  |18,_=>exact Arf
  |19,_=>exact Asx
  |20,_=>exact As0
  |21,_=>exact Arq
  |22,_=>exact Asb
  |23,_=>exact As5
  |24,_=>exact Aso
  |25,_=>exact Asd
  |26,_=>exact Arr
  |27,_=>exact Aro
  |28,_=>exact Ar0
  |29,_=>exact Ar1
  |30,_=>exact Asf
  |31,_=>exact Asc
  |n+32,hb=>omega
 have:=l9 (key (h / 128) (by omega)) (h % 128) (Nat.mod_lt _ (by decide))
 rwa [show 128*(h / 128)+h % 128=h by omega] at this
end Go.Proofs.YtkdodbfnocdkdaaGreatDoor
set_option linter.unusedVariables false
set_option linter.unusedSimpArgs false
set_option maxRecDepth 100000
set_option maxHeartbeats 4000000
namespace Go.Proofs.YtkdodbfnocdkdaaGreatDoor
def Aee (w:Nat):Int:=(((w % 9223372036854775808+4503599627370495) / 4503599627370496:Nat):Int)-1023
theorem D1 (w:Nat) (h:(Nat.blt w 18446744073709551616 && decide (-1022≤Aee w) && decide (Aee w≤1023))=true):Cu w (Aee w):=by
 simp only [Bool.and_eq_true,decide_eq_true_eq] at h
 obtain ⟨⟨h1,h2⟩,h3⟩:=h
 have h1:=Nat.le_of_ble_eq_true h1
 refine ⟨h1,?_,h2,h3⟩
 unfold Aee at*
 omega
theorem Z1 {X s:Nat} (hs:s≤64):Yx .u64 (X:Int) (s:Int)=some ((X / 2 ^ s:Nat):Int):=by
 unfold Yx
 rw [if_neg (by omega)]
 congr 1
 show (X:Int).fdiv (2 ^ min (s:Int).toNat 64)=_
 rw [Int.toNat_natCast,Nat.min_eq_left hs,Int.fdiv_eq_ediv_of_nonneg _ (Int.le_of_lt (Int.pow_pos (show (0:Int)<2 by decide))),Int.natCast_ediv,Int.natCast_pow]
 rfl
theorem nK (n:Nat) {x:Nat} {a:Int} (h:Cu x a) (ha:0≤a) (ha2:a≤1000):∃r,pC n x=some r∧Cu r (a+1):=by
 obtain ⟨h1,h2,h3,h4⟩:=h
 unfold pC
 have e1:Yx .u64 (x:Int) 52=some ((x / 4503599627370496:Nat):Int):=Z1 (X:=x) (s:=52) (by decide)
 rw [e1,Option.bind_some]
 have e2:E6 .u64 ((x / 4503599627370496:Nat):Int) 2047=((x / 4503599627370496 % 2048:Nat):Int):=by
  rw [show (2047:Int)=((2047:Nat):Int) from rfl,Vo (by omega) (by decide)]
  congr 1
  exact Nat.and_two_pow_sub_one_eq_mod _ 11
 rw [e2]
 obtain ⟨e,he⟩:∃e:Nat,x / 4503599627370496 % 2048=e:=⟨_,rfl⟩
 rw [he]
 have hsg:E6 .u64 (x:Int) 9223372036854775808=((x &&& 9223372036854775808:Nat):Int):=Vo (Y:=9223372036854775808) h1 (by decide)
 have hsm:(x &&& 9223372036854775808) % 2 ^ 63=0:=by
  rw [Nat.and_mod_two_pow,show 9223372036854775808 % 2 ^ 63=0 from rfl,Nat.and_zero]
 have hsl:x &&& 9223372036854775808≤9223372036854775808:=Nat.and_le_right
 by_cases c1:(e:Int)<1023
 ·rw [decide_eq_true c1,cond_true,hsg]
  by_cases c2:(e:Int)=1022
  ·rw [beq_iff_eq.2 c2,cond_true,show (4607182418800017408:Int)=((4607182418800017408:Nat):Int) from rfl,mK (by omega) (by decide),Int.toNat_natCast]
   refine ⟨_,rfl,Nat.or_lt_two_pow (n:=64) (by omega) (by decide),?_,by omega,by omega⟩
   have:((x &&& 9223372036854775808)|||4607182418800017408) % 2 ^ 63=4607182418800017408:=by
    rw [Nat.or_mod_two_pow,hsm,Nat.zero_or]
   show ((((x &&& 9223372036854775808)|||4607182418800017408) % 2 ^ 63:Nat):Int)≤_
   rw [this]
   omega
  ·rw [beq_eq_false_iff_ne.2 c2,cond_false,Int.toNat_natCast]
   refine ⟨_,rfl,by omega,?_,by omega,by omega⟩
   show (((x &&& 9223372036854775808) % 2 ^ 63:Nat):Int)≤_
   rw [hsm]
   omega
 ·rw [decide_eq_false c1,cond_false]
  by_cases c3:(e:Int)<1075
  ·rw [decide_eq_true c3,cond_true]
   have w1:IntKind.wrap .u64 ((e:Int)-1023)=((e-1023:Nat):Int):=by
    show ((e:Int)-1023) % (2 ^ 64:Int)=_
    omega
   rw [w1,show (2251799813685248:Int)=((2251799813685248:Nat):Int) from rfl,Z1 (by omega),Option.bind_some,show (4503599627370495:Int)=((4503599627370495:Nat):Int) from rfl,Z1 (by omega),Option.bind_some]
   have hA:2251799813685248 / 2 ^ (e-1023)≤2251799813685248:=Nat.div_le_self _ _
   have hB:4503599627370495 / 2 ^ (e-1023)≤4503599627370495:=Nat.div_le_self _ _
   generalize 2251799813685248 / 2 ^ (e-1023)=A at*
   generalize 4503599627370495 / 2 ^ (e-1023)=C at*
   have w2:IntKind.wrap .u64 ((x:Int)+(A:Int))=((x+A:Nat):Int):=by
    show ((x:Int)+A) % (2 ^ 64:Int)=_
    omega
   rw [w2,R6 (by omega) (by omega),Int.toNat_natCast]
   have l1:(x+A) &&& (18446744073709551615-C)≤x+A:=Nat.and_le_left
   refine ⟨_,rfl,by omega,?_,by omega,by omega⟩
   show ((((x+A) &&& (18446744073709551615-C)) % 2 ^ 63:Nat):Int)≤_
   rw [Nat.and_mod_two_pow]
   have l2:(x+A) % 2 ^ 63 &&& (18446744073709551615-C) % 2 ^ 63≤(x+A) % 2 ^ 63:=Nat.and_le_left
   have l3:(x+A) % 2 ^ 63=(x+A) % 9223372036854775808:=rfl
   omega
  ·rw [decide_eq_false c3,cond_false,Int.toNat_natCast]
   exact ⟨_,rfl,h1,by omega,by omega,by omega⟩
theorem Aeq (n:Nat) {x z:Nat} {a:Int} (h:Cu x a) (ha:a≤10) (hx:x<9223372036854775808) (hz:zrO x=some z) (hzf:Cu z 0):∃r,mP n x=some r∧Cu r 10:=by
 have n1:Wp n x=some false:=by
  unfold Wp fNe
  rw [cM h];rfl
 have n2:Si n x 0=some false:=by
  unfold Si nM
  have e:Ho .u64 (x:Int) 9223372036854775808=(x:Int):=by
   rw [show (9223372036854775808:Int)=((9223372036854775808:Nat):Int) from rfl,R6 (by omega) (by decide)]
   congr 1
   rw [show 18446744073709551615-9223372036854775808=2 ^ 63-1 from rfl,Nat.and_two_pow_sub_one_eq_mod]
   exact Nat.mod_eq_of_lt hx
  rw [show ((0:Int)==0)=true from rfl,cond_true,e,Option.bind_some,Int.toNat_natCast]
  unfold aO
  rw [rU h (n:=9007199254740991) (j:=2045) (by decide+kernel) (by decide) (by have:Nat.log2 9007199254740991=52:=(by decide+kernel);omega)]
  rfl
 have n3:fLt x 0=false:=by
  unfold fLt
  exact beq_eq_false_iff_ne.2 (yY h hx)
 have n4:fGe x 4737786807993761792=false:=by
  unfold fGe
  rw [rU h (n:=4503599627370496) (j:=1051) (by decide+kernel) (by decide) (by have:Nat.log2 4503599627370496=52:=(by decide+kernel);omega)]
  rfl
 unfold mP
 refine Se (Na h ⟨ha,by decide⟩) ?_
 rw [n1,Option.bind_some,cond_false,n2,Option.bind_some,cond_false,n3,cond_false,n4,cond_false]
 unfold zrO at hz
 obtain ⟨x3,e3,hz⟩:=Option.bind_eq_some_iff.1 hz
 obtain ⟨j,ej,hz⟩:=Option.bind_eq_some_iff.1 hz
 rw [e3,Option.bind_some,ej,Option.bind_some]
 cases hb:(E6 .u64 j 1==1) with
 |true=>
  rw [hb,cond_true] at hz
  obtain ⟨y,ey,hz⟩:=Option.bind_eq_some_iff.1 hz
  unfold zO at hz
  obtain ⟨u1,p1,hz⟩:=Option.bind_eq_some_iff.1 hz
  obtain ⟨u2,p2,hz⟩:=Option.bind_eq_some_iff.1 hz
  obtain ⟨u3,p3,hz⟩:=Option.bind_eq_some_iff.1 hz
  obtain ⟨u4,p4,hz⟩:=Option.bind_eq_some_iff.1 hz
  obtain ⟨u5,p5,hz⟩:=Option.bind_eq_some_iff.1 hz
  rw [cond_true,ey,Option.bind_some,p1,Option.bind_some,p2,Option.bind_some,p3,Option.bind_some,p4,Option.bind_some,p5,Option.bind_some,hz,Option.bind_some]
  clear hz p1 p2 p3 p4 p5 ey ej e3 n1 n2 n3 n4 hb h
  try unfold Xz pZ
  repeat' first
   |exact Na (by assumption) (by decide)
   |exact Na (T6 (by assumption)) (by decide)
   |refine Se ?_ ?_
   |(refine dW (by first|assumption|exact D1 _ (by decide)) (by first|assumption|exact D1 _ (by decide)) (by decide) ?_;intro r hr)
   |(refine fG (by first|assumption|exact D1 _ (by decide)) (by first|assumption|exact D1 _ (by decide)) (by decide) ?_;intro r hr)
   |(refine cE (by first|assumption|exact D1 _ (by decide)) (by first|assumption|exact D1 _ (by decide)) (by decide) ?_;intro r hr)
 |false=>
  rw [hb,cond_false] at hz
  unfold zO at hz
  obtain ⟨u1,p1,hz⟩:=Option.bind_eq_some_iff.1 hz
  obtain ⟨u2,p2,hz⟩:=Option.bind_eq_some_iff.1 hz
  obtain ⟨u3,p3,hz⟩:=Option.bind_eq_some_iff.1 hz
  obtain ⟨u4,p4,hz⟩:=Option.bind_eq_some_iff.1 hz
  obtain ⟨u5,p5,hz⟩:=Option.bind_eq_some_iff.1 hz
  rw [cond_false,p1,Option.bind_some,p2,Option.bind_some,p3,Option.bind_some,p4,Option.bind_some,p5,Option.bind_some,hz,Option.bind_some]
  clear hz p1 p2 p3 p4 p5 ej e3 n1 n2 n3 n4 hb h
  try unfold Xz pZ
  repeat' first
   |exact Na (by assumption) (by decide)
   |exact Na (T6 (by assumption)) (by decide)
   |refine Se ?_ ?_
   |(refine dW (by first|assumption|exact D1 _ (by decide)) (by first|assumption|exact D1 _ (by decide)) (by decide) ?_;intro r hr)
   |(refine fG (by first|assumption|exact D1 _ (by decide)) (by first|assumption|exact D1 _ (by decide)) (by decide) ?_;intro r hr)
   |(refine cE (by first|assumption|exact D1 _ (by decide)) (by first|assumption|exact D1 _ (by decide)) (by decide) ?_;intro r hr)
end Go.Proofs.YtkdodbfnocdkdaaGreatDoor
set_option linter.unusedVariables false
set_option linter.unusedSimpArgs false
set_option maxRecDepth 100000
namespace Go.Proofs.YtkdodbfnocdkdaaGreatDoor
theorem K9 (n:Nat) (a:Int):∃m:Nat,O5 n a=some (m:Int)∧m<4096:=by
 unfold O5
 have h1: -4096<Int.tmod a 4096∧Int.tmod a 4096<4096:=by
  have:=Int.tmod_lt_of_pos a (show (0:Int)<4096 by decide)
  have h2:=Int.tmod_lt_of_pos (-a) (show (0:Int)<4096 by decide)
  rw [Int.neg_tmod] at h2
  omega
 generalize Int.tmod a 4096=t at*
 have h3:Int.tmod (t+4096) 4096=(t+4096) % 4096:=Int.tmod_eq_emod_of_nonneg (by omega)
 rw [wrap64 (z:=t+4096) (by omega) (by omega),h3]
 have e:(((t+4096) % 4096).toNat:Int)=(t+4096) % 4096:=by omega
 exact ⟨((t+4096) % 4096).toNat,by rw [e],by omega⟩
theorem Q4 (n:Nat) (h:Int):∃z:Int,bM n h=some z∧-268435456≤z∧z≤268435456:=by
 obtain ⟨m,hm,hm2⟩:=K9 n h
 unfold bM qX
 rw [hm,Option.bind_some]
 have hz:=Aog m hm2
 unfold zOk xO at hz
 obtain ⟨i1,i2⟩:=aI (z:=(m:Int)) (e:=12) (by show m<2 ^ 12;omega) (by decide)
 obtain ⟨x1,e1,f1,s1⟩:=Z4 i1 (D1 4614256656552045848 (by decide)) (by decide) (by decide)
 have s1:=s1 (i2 (by omega)) (by decide)
 have lg:Nat.log2 4503599627370496=52:=by decide+kernel
 obtain ⟨x2,e2,f2,s2⟩:=Oj f1 (y:=4656722014701092864) (t:=false) (n:=4503599627370496) (j:=1033) (lo:=11) (by decide+kernel) (by decide) (by omega) (by decide) (by decide)
 have s2:=s2 s1 rfl
 rw [e1,Option.bind_some,e2,Option.bind_some] at hz
 rw [e1,Option.bind_some,e2,Option.bind_some]
 obtain ⟨z,hzr⟩:∃z,zrO x2=some z:=by
  cases q:zrO x2 with
  |none=>rw [q] at hz;cases hz
  |some z=>exact ⟨z,rfl⟩
 have hzf:Cu z 0:=by
  rw [hzr] at hz
  simp only [Bool.and_eq_true] at hz
  have q1:=Nat.le_of_ble_eq_true hz.1
  have q2:=Nat.le_of_ble_eq_true hz.2
  exact ⟨q1,by omega,by decide,by decide⟩
 obtain ⟨r,hr,hrf⟩:=Aeq n f2 (by decide) s2 hzr hzf
 rw [hr,Option.bind_some,Option.bind_some]
 obtain ⟨x3,e3,f3,-⟩:=Z4 (D1 4670232813583204352 (by decide)) hrf (by decide) (by decide)
 rw [e3,Option.bind_some]
 obtain ⟨x4,e4,f4⟩:=nK n f3 (by decide) (by decide)
 rw [e4,Option.bind_some]
 obtain ⟨w,e5,f5,-⟩:=lR f4 (e:=27) (by decide) .i64 (.inr rfl) (by decide)
 rw [e5,Option.bind_some]
 refine ⟨w,rfl,?_⟩
 have:(2:Nat) ^ (27+1)=268435456:=by decide
 rw [this] at f5
 omega
end Go.Proofs.YtkdodbfnocdkdaaGreatDoor
