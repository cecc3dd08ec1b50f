/- A part. -/
import Derived.Test.YtmhnnmfcjdnlhaaGreatDoorPD
set_option linter.unusedVariables false
set_option linter.unusedSimpArgs false
namespace Go.Proofs.YtmhnnmfcjdnlhaaGreatDoor
open Go.RowKit
def Sj (P:Program) (K:Jz) (sp:Fy):Nat→Fy
 |0,_,_,_,_=>none
 |k+1,f,args,m,nx=>match sp f args m nx with
  |some r=>some r
  |none=>match P.funcs[f]? with
   |some fn=>match fn.body with
    |some c=>bif fn.name== "runtime.NumGoroutine" ||Nat.blt fn.ntmps args.length then none else
      match E6 K (I6 P K (Sj P K sp k) fn.ntmps) k c ⟨Fa args 0,m,nx⟩ with
      |some (.normal,s)=>(Fk P fn s).map (·,s.m,s.nx)
      |some (.ret,s)=>(Fk P fn s).map (·,s.m,s.nx)
      |_=>none
    |none=>none
   |none=>none
section
variable {P:Program} {K:Jz} {sp:Fy}
theorem Rz (hm:P.follows .mixedOrders=true) (hsp:G9 P K.gl sp):∀k,G9 P K.gl (Sj P K sp k)
 |0,f,args,m,nx,v,m',nx',h=>by simp [Sj] at h
 |k+1,f,args,m,nx,v,m',nx',h=>by
  have ih:=Rz hm hsp k
  unfold Sj at h
  split at h
  ·rename_i r hs
   simp only [Option.some.injEq] at h
   subst h
   exact hsp _ _ _ _ _ _ _ hs
  split at h
  ·rename_i fn hf
   split at h
   ·rename_i code hb
    cases hq:(fn.name== "runtime.NumGoroutine" ||Nat.blt fn.ntmps args.length) with
    |true=>rw [hq] at h;simp at h
    |false=>
     rw [hq] at h
     simp only [cond_false] at h
     simp only [Bool.or_eq_false_iff] at hq
     have hlen:args.length≤fn.ntmps:=by
      rcases Nat.lt_or_ge fn.ntmps args.length with h'|h'
      ·have:Nat.blt fn.ntmps args.length=true:=Nat.ble_eq_true_of_le h'
       rw [this] at hq;exact absurd hq.2 (by simp)
      ·exact h'
     refine ⟨⟨fn,code,hf,hb,hq.1⟩,fun B c vals g gl hM ha hr=> ?_⟩
     have key:∀x s,(x=Bh.normal∨x=Bh.ret)→E6 K (I6 P K (Sj P K sp k) fn.ntmps) k code ⟨Fa args 0,m,nx⟩=some (x,s)→(Fk P fn s).map (·,s.m,s.nx)=some (v,m',nx')→Calls P f vals.toArray c.w (Hn B c v m' nx'):=by
      intro x s hx hc hres
      obtain ⟨v0,h1,h2⟩:=Option.map_eq_some_iff.1 hres
      simp only [Prod.mk.injEq] at h2
      obtain ⟨rfl,rfl,rfl⟩:=h2
      have tri:C6 P K fn.ntmps nx code ⟨Fa args 0,m,nx⟩ (fun y t=>(y=.normal∨y=.ret)∧∃v,Fk P fn t=some v∧(v=v0∧t.m=s.m∧t.nx=s.nx)):=
       (Gt hm ih code _ x s hc).mono fun y t ⟨e1,e2⟩=>by subst e1;subst e2;exact ⟨hx,v0,h1,rfl,rfl,rfl⟩
      refine (Ky (R:=fun v m' nx'=>v=v0∧m'=s.m∧nx'=s.nx) hf hb hlen tri g gl hM ha hr).mono ?_
      rintro e w' ⟨v,m',nx',⟨rfl,rfl,rfl⟩,hp⟩
      exact hp
     split at h
     ·rename_i s hc;exact key .normal s (.inl rfl) hc h
     ·rename_i s hc;exact key .ret s (.inr rfl) hc h
     ·cases h
   ·cases h
  ·cases h
def Ry (P:Program) (K:Jz) (sp:Fy) (k:Nat) (f:FuncId):Option Bool:=
 match Sj P K sp k f [] [] 0 with
 |some (.sc (.bool b),_,_)=>some b
 |_=>none
theorem Sk (hm:P.follows .mixedOrders=true) (hsp:G9 P K.gl sp) {k:Nat} {f:FuncId} {b:Bool} (h:Ry P K sp k f=some b):Dc P K.gl f [] (.sc (.bool b)):=by
 unfold Ry at h
 split at h
 ·rename_i b' m nx he
  simp only [Option.some.injEq] at h
  subst h
  have hpc:Gz (Sj P K sp k) (fun _=>none) f []=some (.sc (.bool b'),[]):=by
   unfold Gz
   simp only [Av,cond_true,he,freeze,clean]
  refine ⟨rfl,rfl,⟨((Rz (K:=K) hm hsp k) f [] [] 0 _ m nx he).1,fun B c vals g gl _ hr=> ?_⟩⟩
  exact (K9 (Rz (K:=K) hm hsp k) g gl (look:=fun _=>none) (fun _ _ h=>by cases h) hr hpc).2.2
 ·cases h
end
theorem Pg {P:Program} {K:Jz} {f:FuncId} {args:List AV} {v:AV} {m:List (Nat×Option B5)} {nx:Nat} (h:Dc P K.gl f args v):G4 P f∧∀(B:Nat) (c:Cx) (vals:List Value),Good B c→Dr K.gl c→(∀id,c.M id=Am m id)→(∀id,c.al id→id<nx)→Cf c args vals→Calls P f vals.toArray c.w (Hn B c v m nx):=by
 obtain ⟨-,-,hpl,hp⟩:=h
 refine ⟨hpl,fun B c vals g gl hM ha hr=>(hp B c vals g gl (fun _ _ h=>by cases h) hr).mono ?_⟩
 rintro e w' ⟨v',c',k1,k2,k3,k4,k5,k6,k7⟩
 exact ⟨v',c',k1,k2,k3,k4,k5,fun id=>(k6 id).trans (hM id),fun id hid=>ha id ((k7 id).1 hid)⟩
end Go.Proofs.YtmhnnmfcjdnlhaaGreatDoor
