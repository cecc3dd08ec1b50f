/- A part. -/
import Derived.Test.YtmechmjjcgdpdaaGreatDoorPD
set_option linter.unusedVariables false
set_option linter.unusedSimpArgs false
namespace Go.Proofs.YtmechmjjcgdpdaaGreatDoor
open Go.RowKit
def S5 (P:Program) (K:I5) (sp:Ee):Nat→Ee
 |0,_,_,_,_=>none
 |k+1,f,args,m,nx=>match sp f args m nx with
  |some r=>some r
  |none=>match P.funcs[f]? with
   |some fn=>match fn.body with
    |some c=>bif fn.name== "runtime.NumGoroutine" ||Nat.blt fn.ntmps args.length then none else
      match Eb K (Hq P K (S5 P K sp k) fn.ntmps) k c ⟨Ed args 0,m,nx⟩ with
      |some (.normal,s)=>(D6 P fn s).map (·,s.m,s.nx)
      |some (.ret,s)=>(D6 P fn s).map (·,s.m,s.nx)
      |_=>none
    |none=>none
   |none=>none
section
variable {P:Program} {K:I5} {sp:Ee}
theorem Lp (hm:P.follows .mixedOrders=true) (hsp:E7 P K.gl sp):∀k,E7 P K.gl (S5 P K sp k)
 |0,f,args,m,nx,v,m',nx',h=>by simp [S5] at h
 |k+1,f,args,m,nx,v,m',nx',h=>by
  have ih:=Lp hm hsp k
  unfold S5 at h
  split at h
  ·rename_i r hs
   simp only [Option.some.injEq] at h
   subst h
   exact hsp _ _ _ _ _ _ _ hs
  split at h
  ·rename_i fn hf
   split at h
   ·rename_i code hb
    cases hq:(fn.name== "runtime.NumGoroutine" ||Nat.blt fn.ntmps args.length) with
    |true=>rw [hq] at h;simp at h
    |false=>
     rw [hq] at h
     simp only [cond_false] at h
     simp only [Bool.or_eq_false_iff] at hq
     have hlen:args.length≤fn.ntmps:=by
      rcases Nat.lt_or_ge fn.ntmps args.length with h'|h'
      ·have:Nat.blt fn.ntmps args.length=true:=Nat.ble_eq_true_of_le h'
       rw [this] at hq;exact absurd hq.2 (by simp)
      ·exact h'
     refine ⟨⟨fn,code,hf,hb,hq.1⟩,fun B c vals g gl hM ha hr=> ?_⟩
     have key:∀x s,(x=A4.normal∨x=A4.ret)→Eb K (Hq P K (S5 P K sp k) fn.ntmps) k code ⟨Ed args 0,m,nx⟩=some (x,s)→(D6 P fn s).map (·,s.m,s.nx)=some (v,m',nx')→Calls P f vals.toArray c.w (Fm B c v m' nx'):=by
      intro x s hx hc hres
      obtain ⟨v0,h1,h2⟩:=Option.map_eq_some_iff.1 hres
      simp only [Prod.mk.injEq] at h2
      obtain ⟨rfl,rfl,rfl⟩:=h2
      have tri:Bu P K fn.ntmps nx code ⟨Ed args 0,m,nx⟩ (fun y t=>(y=.normal∨y=.ret)∧∃v,D6 P fn t=some v∧(v=v0∧t.m=s.m∧t.nx=s.nx)):=
       (Fx hm ih code _ x s hc).mono fun y t ⟨e1,e2⟩=>by subst e1;subst e2;exact ⟨hx,v0,h1,rfl,rfl,rfl⟩
      refine (Ld (R:=fun v m' nx'=>v=v0∧m'=s.m∧nx'=s.nx) hf hb hlen tri g gl hM ha hr).mono ?_
      rintro e w' ⟨v,m',nx',⟨rfl,rfl,rfl⟩,hp⟩
      exact hp
     split at h
     ·rename_i s hc;exact key .normal s (.inl rfl) hc h
     ·rename_i s hc;exact key .ret s (.inr rfl) hc h
     ·cases h
   ·cases h
  ·cases h
def V5 (P:Program) (K:I5) (sp:Ee) (k:Nat) (f:FuncId):Option Bool:=
 match S5 P K sp k f [] [] 0 with
 |some (.sc (.bool b),_,_)=>some b
 |_=>none
theorem V2 (hm:P.follows .mixedOrders=true) (hsp:E7 P K.gl sp) {k:Nat} {f:FuncId} {b:Bool} (h:V5 P K sp k f=some b):Cj P K.gl f [] (.sc (.bool b)):=by
 unfold V5 at h
 split at h
 ·rename_i b' m nx he
  simp only [Option.some.injEq] at h
  subst h
  have hpc:Fp (S5 P K sp k) (fun _=>none) f []=some (.sc (.bool b'),[]):=by
   unfold Fp
   simp only [Ap,cond_true,he,freeze,clean]
  refine ⟨rfl,rfl,⟨((Lp (K:=K) hm hsp k) f [] [] 0 _ m nx he).1,fun B c vals g gl _ hr=> ?_⟩⟩
  exact (Jm (Lp (K:=K) hm hsp k) g gl (look:=fun _=>none) (fun _ _ h=>by cases h) hr hpc).2.2
 ·cases h
end
theorem Ey {P:Program} {K:I5} {f:FuncId} {args:List AV} {v:AV} {m:List (Nat×Option Bk)} {nx:Nat} (h:Cj P K.gl f args v):Dp P f∧∀(B:Nat) (c:Cx) (vals:List Value),Good B c→B2 K.gl c→(∀id,c.M id=Ao m id)→(∀id,c.al id→id<nx)→Be c args vals→Calls P f vals.toArray c.w (Fm B c v m nx):=by
 obtain ⟨-,-,hpl,hp⟩:=h
 refine ⟨hpl,fun B c vals g gl hM ha hr=>(hp B c vals g gl (fun _ _ h=>by cases h) hr).mono ?_⟩
 rintro e w' ⟨v',c',k1,k2,k3,k4,k5,k6,k7⟩
 exact ⟨v',c',k1,k2,k3,k4,k5,fun id=>(k6 id).trans (hM id),fun id hid=>ha id ((k7 id).1 hid)⟩
end Go.Proofs.YtmechmjjcgdpdaaGreatDoor
