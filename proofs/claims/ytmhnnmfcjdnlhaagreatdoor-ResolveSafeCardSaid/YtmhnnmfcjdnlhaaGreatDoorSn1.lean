/- A part. -/
import Derived.Test.YtmhnnmfcjdnlhaaGreatDoorSn0
set_option linter.unusedVariables false
set_option linter.unusedSimpArgs false
set_option maxRecDepth 100000
namespace Go.Proofs.YtmhnnmfcjdnlhaaGreatDoor
def Gj:Nat→Nat→Bool
 |0,_=>true
 |n+1,a=>zOk (a+n) && Gj n a
theorem cQ:∀{n a:Nat},Gj n a=true→∀k,k<n→zOk (a+k)=true
 |0,a,_,k,hk=>by omega
 |n+1,a,h,k,hk=>by
  unfold Gj at h
  rw [Bool.and_eq_true] at h
  rcases Nat.lt_succ_iff_lt_or_eq.1 hk with q|rfl
  ·exact cQ h.2 k q
  ·exact h.1
theorem z_0:Gj 128 0=true:=by decide+kernel
theorem z_1:Gj 128 128=true:=by decide+kernel
theorem z_2:Gj 128 256=true:=by decide+kernel
theorem z_3:Gj 128 384=true:=by decide+kernel
theorem z_4:Gj 128 512=true:=by decide+kernel
theorem z_5:Gj 128 640=true:=by decide+kernel
theorem z_6:Gj 128 768=true:=by decide+kernel
theorem z_7:Gj 128 896=true:=by decide+kernel
theorem z_8:Gj 128 1024=true:=by decide+kernel
theorem z_9:Gj 128 1152=true:=by decide+kernel
theorem Agw:Gj 128 1280=true:=by decide+kernel
theorem Agq:Gj 128 1408=true:=by decide+kernel
theorem Agx:Gj 128 1536=true:=by decide+kernel
theorem Agd:Gj 128 1664=true:=by decide+kernel
theorem Agl:Gj 128 1792=true:=by decide+kernel
theorem Af2:Gj 128 1920=true:=by decide+kernel
theorem Agv:Gj 128 2048=true:=by decide+kernel
theorem Af8:Gj 128 2176=true:=by decide+kernel
theorem Agb:Gj 128 2304=true:=by decide+kernel
theorem Agj:Gj 128 2432=true:=by decide+kernel
theorem Afv:Gj 128 2560=true:=by decide+kernel
theorem Afk:Gj 128 2688=true:=by decide+kernel
theorem Afh:Gj 128 2816=true:=by decide+kernel
theorem Af1:Gj 128 2944=true:=by decide+kernel
theorem Agp:Gj 128 3072=true:=by decide+kernel
theorem Ag5:Gj 128 3200=true:=by decide+kernel
theorem Aff:Gj 128 3328=true:=by decide+kernel
theorem Afw:Gj 128 3456=true:=by decide+kernel
theorem Agk:Gj 128 3584=true:=by decide+kernel
theorem Aga:Gj 128 3712=true:=by decide+kernel
theorem Ag2:Gj 128 3840=true:=by decide+kernel
theorem Af4:Gj 128 3968=true:=by decide+kernel
theorem Adn (h:Nat) (hh:h<4096):zOk h=true:=by
 have key:∀b,b<32→Gj 128 (128*b)=true:=by
  intro b hb
  match b,hb with
  |0,_=>exact z_0
  |1,_=>exact z_1
  |2,_=>exact z_2
  |3,_=>exact z_3
  |4,_=>exact z_4
  |5,_=>exact z_5
  |6,_=>exact z_6
  |7,_=>exact z_7
  |8,_=>exact z_8
  |9,_=>exact z_9
  |10,_=>exact Agw
  |11,_=>exact Agq
  |12,_=>exact Agx
  |13,_=>exact Agd
  |14,_=>exact Agl
  |15,_=>exact Af2
  |16,_=>exact Agv
  |17,_=>exact Af8
  |18,_=>exact Agb
  |19,_=>exact Agj
  |20,_=>exact Afv
  |21,_=>exact Afk
  |22,_=>exact Afh
  |23,_=>exact Af1
  |24,_=>exact Agp
  |25,_=>exact Ag5
  |26,_=>exact Aff
  |27,_=>exact Afw
  |28,_=>exact Agk
  |29,_=>exact Aga
  |30,_=>exact Ag2
  |31,_=>exact Af4
  |n+32,hb=>omega
 have:=cQ (key (h / 128) (by omega)) (h % 128) (Nat.mod_lt _ (by decide))
 rwa [show 128*(h / 128)+h % 128=h by omega] at this
end Go.Proofs.YtmhnnmfcjdnlhaaGreatDoor
