/- A part. -/
import Derived.Test.YtmhnnmfcjdnlhaaGreatDoorX1E2
import Derived.Test.YtmhnnmfcjdnlhaaGreatDoorPY
set_option linter.unusedVariables false
set_option linter.unusedSimpArgs false
set_option maxRecDepth 100000
namespace Go.Proofs.YtmhnnmfcjdnlhaaGreatDoor
open Go.RowKit
def zW:Value→Value→Bool
 |.int k z,.int k' z'=>decide (k=k') && decide (z=z')
 |.string s,.string s'=>decide (s=s')
 |_,_=>false
theorem qV {a b:Value} (h:zW a b=true):a=b:=by
 unfold zW at h
 split at h
 ·simp at h;rw [h.1,h.2]
 ·simp at h;rw [h]
 ·cases h
mutual
def Kl:AV→AV→Bool
 |.sc v,.sc v'=>zW v v'
 |.agg l,.agg l'=>Rd l l'
 |.Ek n l ex,.Ek n' l' ex'=>Nat.beq n n' && Rd l l' && (ex==ex')
 |_,_=>false
def Rd:List AV→List AV→Bool
 |[],[]=>true
 |x::xs,y::ys=>Kl x y && Rd xs ys
 |_,_=>false
end
mutual
theorem Qo:∀(a b:AV),Kl a b=true→a=b
 |.sc v,b,h=>by
  cases b<;>simp only [Kl,Bool.false_eq_true] at h
  rw [qV h]
 |.agg l,b,h=>by
  cases b<;>simp only [Kl,Bool.false_eq_true] at h
  rw [R0 _ _ h]
 |.Ek n l ex,b,h=>by
  cases b<;>simp only [Kl,Bool.false_eq_true,Bool.and_eq_true] at h
  obtain ⟨⟨h1,h2⟩,h3⟩:=h
  rw [Nat.eq_of_beq_eq_true h1,R0 _ _ h2,beq_iff_eq.1 h3]
 |.E9,b,h=>by simp [Kl] at h
 |.B4 _,b,h=>by simp [Kl] at h
 |.Ki,b,h=>by simp [Kl] at h
 |.ptr ..,b,h=>by simp [Kl] at h
 |.Dn ..,b,h=>by simp [Kl] at h
 |.B1,b,h=>by simp [Kl] at h
 |.sl ..,b,h=>by simp [Kl] at h
 |.fn ..,b,h=>by simp [Kl] at h
 |.oN _,b,h=>by simp [Kl] at h
theorem R0:∀(a b:List AV),Rd a b=true→a=b
 |[],[],_=>rfl
 |x::xs,y::ys,h=>by
  simp only [Rd,Bool.and_eq_true] at h
  rw [Qo _ _ h.1,R0 _ _ h.2]
 |[],_::_,h=>by simp [Rd] at h
 |_::_,[],h=>by simp [Rd] at h
end
theorem Q2 {α:Type} {b:Bool} {x:Option α} {y:α} (h:(bif b then x else none)=some y):b=true∧x=some y:=by
 cases b
 ·cases h
 ·exact ⟨rfl,h⟩
def stl (x:Int):List Ab:=[⟨0,x,0,0,0,0⟩,⟨10,x,0,0,0,0⟩]
def lvl:List Ab:=[⟨0,0,0,9000,100,50⟩,⟨100,10000,0,9000,100,50⟩]
def cB (a:AV):Option (List Ab):=bif Kl a (As Ab.E (stl 0)) then some (stl 0) else bif Kl a (As Ab.E (stl 100)) then some (stl 100) else bif Kl a (As Ab.E lvl) then some lvl else none
theorem W5 {a:AV} {l:List Ab} (h:cB a=some l):a=As Ab.E l:=by
 unfold cB at h
 cases h1:Kl a (As Ab.E (stl 0)) with
 |true=>rw [h1,cond_true] at h;rw [← Option.some.inj h];exact Qo _ _ h1
 |false=>
  rw [h1,cond_false] at h
  cases h2:Kl a (As Ab.E (stl 100)) with
  |true=>rw [h2,cond_true] at h;rw [← Option.some.inj h];exact Qo _ _ h2
  |false=>
   rw [h2,cond_false] at h
   obtain ⟨h3,h4⟩:=Q2 h
   rw [← Option.some.inj h4];exact Qo _ _ h3
def cf0:Fy:=fun f args m nx=>match args with
 |[a,b,.agg [.sc (.int .i64 x),.sc (.int .i64 y)]]=>bif f==34 then (cB a).bind fun l=>(cB b).bind fun k=>(lZ 1000 l k (⟨x,y⟩:Ea)).map fun z=>(.B4 [Aa z.1,Aa z.2],m,nx) else none
 |_=>none
theorem nG:G9 Tryz.prog KF.gl cf0:=by
 intro f args m nx v m' nx' h
 unfold cf0 at h
 split at h
 ·obtain ⟨hf,h1⟩:=Q2 h
  obtain ⟨l,hl,h2⟩:=Option.bind_eq_some_iff.1 h1
  obtain ⟨k,hk,h3⟩:=Option.bind_eq_some_iff.1 h2
  obtain ⟨z,hz,e⟩:=Option.map_eq_some_iff.1 h3
  cases e
  rw [beq_iff_eq.1 hf,W5 hl,W5 hk]
  exact Pg (K:=KF) (Acl hz)
 ·cases h
def sp0:Fy:=fun f args m nx=>
 bif f==34 then (match Gz cf0 (Am m) f args with
  |some (v,[])=>some (v,m,nx)
  |_=>none) else none
theorem zP:G9 Tryz.prog KF.gl sp0:=by
 intro f args m nx v m' nx' h
 unfold sp0 at h
 obtain ⟨-,h2⟩:=Q2 h
 split at h2
 ·rename_i v0 hp
  simp only [Option.some.injEq,Prod.mk.injEq] at h2
  obtain ⟨rfl,rfl,rfl⟩:=h2
  obtain ⟨-,hpl⟩:=N4 nG hp
  refine ⟨hpl,fun B c vals g hgl hM ha hr=> ?_⟩
  refine (K9 nG g hgl (look:=Am m) (fun id b hb=>by rw [hM];exact hb) hr hp).2.2.mono ?_
  rintro e w' ⟨v',c',k1,k2,k3,k4,k5,k6,k7⟩
  exact ⟨v',c',k1,k2,k3,k4,k5,fun id=>(k6 id).trans (hM id),fun id hid=>ha id ((k7 id).1 hid)⟩
 ·cases h2
end Go.Proofs.YtmhnnmfcjdnlhaaGreatDoor
