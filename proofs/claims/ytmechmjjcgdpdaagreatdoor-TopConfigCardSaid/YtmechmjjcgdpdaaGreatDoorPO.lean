/- A part. -/
import Derived.Test.YtmechmjjcgdpdaaGreatDoorPI
set_option linter.unusedVariables false
set_option linter.unusedSimpArgs false
namespace Go.Proofs.YtmechmjjcgdpdaaGreatDoor
open Go.RowKit
section
variable {P:Program} {gl:Nat→Option (List AV)} {α:Type} {E:En α}
abbrev Raw (E:En α):={p:α×List Value // p.2.length=E.size}
def Tf (E:En α):En (Raw E) where
 size:=E.size
 enc p:=p.1.2.map .sc
 len p:=by rw [List.length_map];exact p.2
 pos:=E.pos
 cell p:=by simp [B7]
 Cs p:=by
  have:∀l:List Value,Ap (l.map AV.sc)=true:=by
   intro l
   induction l with
   |nil=>rfl
   |cons x l ih=>simp [Ap,clean,ih]
  exact this _
 Vr p:=by
  have:∀l:List Value,Fk (l.map AV.sc)=l.map AV.sc:=by
   intro l
   induction l with
   |nil=>rfl
   |cons x l ih=>simp [Fk,norm,ih]
  exact this _
theorem Tf.sc:ScE (Tf E):=fun p=>by
 show (p.1.2.map AV.sc).all Lf=true
 rw [List.all_map,List.all_eq_true]
 intro x _
 rfl
def Wb (L:List (Raw E)):List Value:=L.flatMap fun p=>p.1.2
def SlE (E:En α):Prop:=∀x,∀a∈E.enc x,(∃v,a=.sc v)∨∃k cs ex,a=.Dh k cs ex
theorem Z7 {c:Cx}:∀{us vs:List Value},Be c (us.map AV.sc) vs→vs=us
 |[],_,h=>by cases h;rfl
 |u::us,_,h=>by
  cases h with
  |cons h t=>cases h;rw [Z7 t]
theorem Vl (L:List (Raw E)):Az (Tf E) L=(Wb L).map AV.sc:=by
 induction L with
 |nil=>rfl
 |cons p L ih=>rw [Ch,ih];simp [Wb,Tf]
theorem cL {c:Cx}:∀L:List (Raw E),(∀p∈L,Be c (E.enc p.1.1) p.1.2)→Be c (Az E (L.map fun p=>p.1.1)) (Wb L)
 |[],_=> .nil
 |p::L,h=>by
  rw [List.map_cons,Ch]
  exact (h p (by simp)).append (cL L (fun q hq=>h q (by simp [hq])))
def Ud (c:Cx) (id:Nat) (b:Bk):Cx:={c with M:=fun j=>if j=id then some b else c.M j}
theorem u3 {c:Cx} {id:Nat} {b b0:Bk} (hM:c.M id=some b0) (x:Nat):(Ud c id b).own x↔c.own x:=by
 constructor
 ·rintro ⟨j,Bd,h1,h2⟩
  by_cases e:j=id
  ·subst e;exact ⟨j,b0,hM,h2⟩
  ·simp only [Ud,if_neg e] at h1;exact ⟨j,Bd,h1,h2⟩
 ·rintro ⟨j,Bd,h1,h2⟩
  by_cases e:j=id
  ·subst e;exact ⟨j,b,by simp [Ud],h2⟩
  ·exact ⟨j,Bd,by simp only [Ud,if_neg e];exact h1,h2⟩
theorem X0 {c:Cx} {id:Nat} {b b0:Bk} (hM:c.M id=some b0):Step c (Ud c id b):=
 ⟨rfl,rfl,rfl,Nat.le_refl _,fun _ _ _=>rfl,fun x _ h=>(u3 hM x).1 h,fun _ _=>rfl,fun _ h=>h,fun _=>Iff.rfl,fun x arr T h=>⟨arr,h,rfl⟩,Nat.le_refl _⟩
theorem q9 {B:Nat} {c:Cx} (g:Good B c) {id:Nat} {b b0:Bk} (hM:c.M id=some b0) (hb:∃(arr:Array Value) (vs rest:List Value),c.w.heap[c.f id]?=some (.cells arr b.ty)∧arr.toList=vs++rest∧Be (Ud c id b) b.cells vs):Good B (Ud c id b):=by
 have hj:∀j Bd,(Ud c id b).M j=some Bd→(j=id∧Bd=b)∨(j≠id∧c.M j=some Bd):=by
  intro j Bd h
  by_cases e:j=id
  ·simp only [Ud,if_pos e] at h;exact .inl ⟨e,(Option.some.inj h).symm⟩
  ·simp only [Ud,if_neg e] at h;exact .inr ⟨e,h⟩
 refine ⟨g.hB,fun j Bd h=> ?_,fun j Bd h=> ?_,g.Lj,fun i j bi bj h h' hf=> ?_⟩
 ·rcases hj j Bd h with ⟨rfl,-⟩|⟨-,h⟩
  ·exact g.low _ _ hM
  ·exact g.low _ _ h
 ·rcases hj j Bd h with ⟨rfl,rfl⟩|⟨-,h⟩
  ·exact hb
  ·obtain ⟨arr,vs,rest,q1,q2,q3⟩:=g.Bd j Bd h
   exact ⟨arr,vs,rest,q1,q2,q3.step (X0 hM)⟩
 ·have h1:∃b1,c.M i=some b1:=by
   rcases hj i bi h with ⟨rfl,-⟩|⟨-,h⟩
   ·exact ⟨_,hM⟩
   ·exact ⟨_,h⟩
  have h2:∃b1,c.M j=some b1:=by
   rcases hj j bj h' with ⟨rfl,-⟩|⟨-,h⟩
   ·exact ⟨_,hM⟩
   ·exact ⟨_,h⟩
  obtain ⟨b1,h1⟩:=h1
  obtain ⟨b2,h2⟩:=h2
  exact g.inj i j b1 b2 h1 h2 hf
theorem decode {B:Nat} {c:Cx} (g:Good B c) {id ty:Nat} {Y:List (Raw E)} (hM:c.M id=some ⟨Az (Tf E) Y,ty⟩) (hY:∀p∈Y,Be c (E.enc p.1.1) p.1.2):Good B (Ud c id ⟨Az E (Y.map fun p=>p.1.1),ty⟩):=by
 obtain ⟨arr,vs,rest,q1,q2,q3⟩:=g.Bd id _ hM
 have q3:Be c (Az (Tf E) Y) vs:=q3
 rw [Vl] at q3
 have hv:=Z7 q3
 subst hv
 refine q9 g hM ⟨arr,_,rest,q1,q2,?_⟩
 exact cL Y fun p hp=>(hY p hp).step (X0 hM)
end
end Go.Proofs.YtmechmjjcgdpdaaGreatDoor
