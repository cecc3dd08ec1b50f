/- A part. -/
import Derived.Test.YtmhnnmfcjdnlhaaGreatDoorFl4
set_option linter.unusedVariables false
set_option linter.unusedSimpArgs false
namespace Go.Proofs.YtmhnnmfcjdnlhaaGreatDoor
theorem C3.of_le {x c:Nat} {k:Int} (h:x≤c) (hc:(c:Int)≤(k+1023)*4503599627370496) (hp:c<9223372036854775808) (k1: -1022≤k) (k2:k≤1023):C3 x k:=⟨by omega,by omega,k1,k2⟩
theorem C3.m7 {x:Nat} {a:Int} (h:C3 x a) (hp:x<9223372036854775808):x<9218868437227405312:=by
 obtain ⟨h1,h2,h3,h4⟩:=h
 omega
theorem tZ {x:Nat} {a:Int} (h:C3 x a) (hg:Uz x 0=true):x<9223372036854775808:=by
 refine Nat.lt_of_not_le fun hx=> ?_
 obtain ⟨s,m,i,h1,h2,-,h4⟩:=Gm h
 have h4:=h4 hx
 subst h4
 unfold Uz at hg
 rw [Kq h1 (show FloatKind.f64.decode 0=.number false 0 (-1074) from by decide+kernel)] at hg
 have hg:=Int.compare_eq_gt.1 (Option.some.inj (eq_of_beq hg))
 unfold Ieee.signed at hg
 rw [if_pos rfl,if_neg (by decide),Nat.zero_shiftLeft] at hg
 generalize m<<<((i:Int)-1074-min ((i:Int)-1074) (-1074)).toNat=X at hg
 omega
theorem Z0 {x:Nat} {a:Int} (h:C3 x a) (hx:x<9223372036854775808) (he:iN x 0=false):Uz x 0=true:=by
 by_cases c:x=0
 ·subst c
  unfold iN at he
  rw [Kq (show FloatKind.f64.decode 0=.number false 0 (-1074) from by decide+kernel) (show FloatKind.f64.decode 0=.number false 0 (-1074) from by decide+kernel)] at he
  exact absurd he (by decide)
 ·unfold Uz
  rw [My (by omega) (h.m7 hx)]
  rfl
theorem yY {x c:Nat} (hx:x<9218868437227405312) (h:pU x c=true):x≤c:=by
 refine Nat.le_of_not_lt fun q=> ?_
 unfold pU at h
 rw [My q hx] at h
 exact absurd h (by decide)
theorem Z2 {x c:Nat} (hx:x<9218868437227405312) (h:Uz x c=false):x≤c:=by
 refine Nat.le_of_not_lt fun q=> ?_
 unfold Uz at h
 rw [My q hx] at h
 exact absurd h (by decide)
theorem zJ {x c:Nat} (hc:c<9218868437227405312) (h:Uz x c=true):c≤x:=by
 refine Nat.le_of_not_lt fun q=> ?_
 unfold Uz at h
 rw [aL q hc] at h
 exact absurd h (by decide)
theorem aJ (w:Ieee.Toward) (neg:Bool) (n drop:Nat):(Ieee.Toward.cut w neg n drop)≤n / 2 ^ min drop (n.log2+2)+1:=by
 unfold Ieee.Toward.cut
 rw [Nat.one_shiftLeft]
 show n / 2 ^ min drop (n.log2+2)+Bool.toNat _≤_
 have:∀b:Bool,b.toNat≤1:=fun b=>by cases b<;>decide
 exact Nat.add_le_add_left (this _) _
theorem fD {x a:Nat} (hx:C3 x a) (ha:a≤1000):∃r,Ou x=some r∧C3 r ((a:Int)+1):=by
 obtain ⟨s,m,i,h1,h2,h3,-⟩:=Gf hx
 unfold Ou
 rw [h1]
 obtain ⟨c,hc⟩:∃c:Nat,Ieee.Toward.down.cut s (m<<<((i:Int)-1074).toNat) (-((i:Int)-1074)).toNat=c:=⟨_,rfl⟩
 have hcb:c≤2 ^ (a+1):=by
  have hp:0<2 ^ (a+1):=Nat.pow_pos (by decide)
  refine Nat.le_trans (by rw [← hc];exact aJ _ _ _ _) ?_
  by_cases hm:m=0
  ·rw [hm,Nat.zero_shiftLeft,Nat.zero_div];omega
  have h4:=h2 hm
  have h5:=It m
  by_cases c1:0≤(i:Int)-1074
  ·rw [show (-((i:Int)-1074)).toNat=0 by omega,Nat.zero_min,Nat.pow_zero,Nat.div_one,Nat.shiftLeft_eq]
   have:m*2 ^ ((i:Int)-1074).toNat<2 ^ (m.log2+1)*2 ^ ((i:Int)-1074).toNat:=Nat.mul_lt_mul_of_pos_right h5 (Nat.pow_pos (by decide))
   rw [← Nat.pow_add] at this
   exact Nat.lt_of_lt_of_le this (F0 (by omega))
  ·rw [show ((i:Int)-1074).toNat=0 by omega,Nat.shiftLeft_zero]
   refine Nat.succ_le_of_lt ?_
   rw [Nat.div_lt_iff_lt_mul (Nat.pow_pos (by decide)),← Nat.pow_add]
   exact Nat.lt_of_lt_of_le h5 (F0 (by omega))
 have hval:(match (Ieee.Datum.number s m ((i:Int)-1074):Ieee.Datum) with|.nan _ _=>none|d=>some (FloatKind.f64.encode (d.integral .down)))=some (Ieee.Format.nearest Ieee.double s c 0):=by
  rw [← hc];rfl
 obtain ⟨q1,-⟩:=M8 s (mag:=c) (p:=0) (q:=a+1) (place:=0) (k:=(a:Int)+1) (by rw [Nat.pow_zero,Nat.mul_one];exact hcb) (by omega) (by omega) (by omega)
 exact ⟨_,hval,q1⟩
end Go.Proofs.YtmhnnmfcjdnlhaaGreatDoor
