/- Functions run by the evaluator on values of which some are not known; slices.Repeat of one element. -/
import Derived.Test.YtlenkbgeomojnaaGreatDoorPJ
import Derived.KernelRfl
set_option linter.unusedVariables false
set_option linter.unusedSimpArgs false
namespace Go.Proofs.YtlenkbgeomojnaaGreatDoor
open Go.RowKit
section
variable {P:Program} {K:Cfg} {gl:Nat→Option (List AV)}
/- what the evaluator answers, as a run of its own -/
theorem own_of_ev (hm:P.follows .mixedOrders=true) {k:Nat} {f:FuncId} {args:List AV} {u:AV} {m:Mem} {nx:Nat} {R:AV→Mem→Prop} (h:evFn P K k f args [] 0=some (u,m,nx)) (hR:R u m):Own P K.gl f args R:=by
 obtain ⟨hp,hk⟩:=(evFn_ok (K:=K) hm k) f args [] 0 u m nx h
 exact ⟨hp,fun B c vals g hgl hM ha hr=>(hk B c vals g hgl (fun id=>by rw [hM];rfl) (fun id h=>absurd h (ha id)) hr).mono fun e w' hq=>⟨u,m,nx,hR,hq⟩⟩
/- the slice that the evaluator answers with: is it of its own, its places, its cells -/
def repV (P:Program) (K:Cfg) (k:Nat) (f:FuncId) (args:List AV):Option (Bool×Nat×Nat×Nat×Nat×List AV×Nat):=
 match evFn P K k f args [] 0 with
 |some (.sl id off esz n cap ex,m,_)=>(mget m id).map fun b=>(ex,off,esz,n,cap,b.cells,b.ty)
 |_=>none
def repO {α:Type} (x:List α) (k:Int):Option (List α):=match x with
 |[v]=>if 0≤k∧k≤12 then some (List.replicate k.toNat v) else none
 |_=>none
theorem repO_some {α:Type} {x y:List α} {k:Int} (h:repO x k=some y):∃(v:α) (j:Nat),x=[v]∧k=(j:Int)∧j≤12∧y=List.replicate j v:=by
 unfold repO at h
 split at h
 ·rename_i v
  split at h
  ·rename_i hk
   cases h
   exact ⟨v,k.toNat,rfl,by omega,by omega,rfl⟩
  ·cases h
 ·cases h
theorem rep_own (hm:P.follows .mixedOrders=true) {k j:Nat} {f:FuncId} {args:List AV} {l:List Int} {ty cap:Nat} {ex:Bool} (h:repV P K k f args=some (ex,0,1,j,cap,encs intE l,ty)) (hj:j=l.length) (h0:l=[]→cap=0∧ex=true):Own P K.gl f args (MadeO intE ty l):=by
 unfold repV at h
 split at h
 ·rename_i id off esz n cap' ex' m nx he
  obtain ⟨b,hb,h⟩:=Option.map_eq_some_iff.1 h
  simp only [Prod.mk.injEq] at h
  obtain ⟨rfl,rfl,rfl,rfl,rfl,h6,h7⟩:=h
  refine own_of_ev hm he ?_
  cases l with
  |nil=>
   obtain ⟨rfl,rfl⟩:=h0 rfl
   subst hj
   exact .inl ⟨rfl,.inr (.inr ⟨_,_,_,rfl⟩)⟩
  |cons a r=>
   subst hj
   obtain ⟨bc,bt⟩:=b
   simp only at h6 h7
   subst h6 h7
   exact .inr ⟨by simp,_,_,_,rfl,hb⟩
 ·cases h
end
section
variable {α:Type} {E:En α} {P:Program} {gl:Nat→Option (List AV)}
/- a literal slice that nobody writes any more, and a number, handed to a call -/
theorem pureD_frz2 {n id ty:Nat} {look:Nat→Option ABlk} {f:FuncId} {l0 l:List α} {z:Int} {v:AV} {d:Wr} (hl:l0.length=l.length) (hb:look id=some ⟨encs E l,ty⟩) (h:∀look',PureD P gl look' n f [lstA E l,intA z] v d):PureD P gl look n f [blkV E id l0,intA z] v ((id,none)::d):=by
 refine ⟨(h look).1,fun B c vals g hgl hn hlk hr=> ?_⟩
 have hM:=hlk id _ hb
 have hlt:=g.lt hM
 have hlow:=(g.low id _ hM).1
 let c1:Cx:={c with M:=fun j=>if j=id then none else c.M j}
 have hM1:∀j b,c1.M j=some b→j≠id∧c.M j=some b:=fun j b h=>by
  by_cases e:j=id
  ·simp only [c1,e,if_true] at h;cases h
  ·simp only [c1,e,if_false] at h;exact ⟨e,h⟩
 have own1:∀b,c1.own b→c.own b:=fun b ⟨j,bk,h1,h2⟩=>⟨j,bk,(hM1 j bk h1).2,h2⟩
 have st1:Step c c1:=⟨rfl,rfl,rfl,Nat.le_refl _,fun _ _ _=>rfl,fun b _ h=>own1 b h,fun _ _=>rfl,fun _ h=>h,fun _=>Iff.rfl,fun b a T h=>⟨a,h,rfl⟩,Nat.le_refl _⟩
 have g1:Good B c1:=⟨g.hB,fun j b h=>g.low j b (hM1 j b h).2,fun j b h=>by
   obtain ⟨arr,vs,rest,q1,q2,q3⟩:=g.blk j b (hM1 j b h).2
   exact ⟨arr,vs,rest,q1,q2,q3.step st1⟩,g.nol,fun i j bi bj hi hj hf=>g.inj i j bi bj (hM1 i bi hi).2 (hM1 j bj hj).2 hf⟩
 have hst:c1.stable (c.f id):=by
  refine ⟨hlt,?_,fun hno=> ?_⟩
  ·rintro ⟨j,bk,h1,h2⟩
   obtain ⟨e,h3⟩:=hM1 j bk h1
   exact e (g.inj j id bk _ h3 hM h2)
  ·have:c.f id<B:=g.nol _ hno
   omega
 obtain ⟨arr,vs,rest,q1,q2,q3,q4⟩:=g.cells hM
 have hrr:Rels c1 [lstA E l,intA z] vals:=by
  cases hr with
  |cons r1 r2=>
   cases r2 with
   |cons r3 r4=>
   cases r4
   refine .cons ?_ (.cons (r3.step st1) .nil)
   cases r1 with
   |sl ha hb2 hs hnc hc2 hex hmx=>
    rw [hl] at hnc hc2 ⊢
    exact .lst (c:=c1) hst (q3.step st1) q4 hc2 (fun h=>by cases h) hmx
 refine ((h (fun _=>none)).2 B c1 vals g1 (hgl.step st1) hn (fun _ _ h=>by cases h) hrr).mono ?_
 rintro e w' ⟨v',c',h1,h2,h3,h4,h5,h6,h7,h8⟩
 refine ⟨v',c',h1,h2,h3,st1.trans h4,h5,fun i=> ?_,h7,h8⟩
 rw [h6]
 rfl
end
end Go.Proofs.YtlenkbgeomojnaaGreatDoor
