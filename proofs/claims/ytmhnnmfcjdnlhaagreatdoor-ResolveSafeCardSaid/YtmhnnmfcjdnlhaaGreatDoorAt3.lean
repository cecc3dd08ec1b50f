/- A part. -/
import Derived.Test.YtmhnnmfcjdnlhaaGreatDoorAt2
import Derived.Test.YtmhnnmfcjdnlhaaGreatDoorSn3
import Derived.Test.YtmhnnmfcjdnlhaaGreatDoorMath
set_option linter.unusedVariables false
set_option linter.unusedSimpArgs false
set_option maxHeartbeats 4000000
namespace Go.Proofs.YtmhnnmfcjdnlhaaGreatDoor
theorem V4 {α:Type} {b:Bool} {x y:α} {P Q:α→Prop} (h1:b=true→P x∨Q x) (h2:b=false→P y∨Q y):P (bif b then x else y)∨Q (bif b then x else y):=by
 cases b
 ·exact h2 rfl
 ·exact h1 rfl
theorem Yc (n:Nat) (h:Int):∃p,iD n h=some p:=by
 unfold iD xP
 obtain ⟨a,ea,-⟩:=Np n h
 obtain ⟨m,em,-⟩:=J7 n h
 obtain ⟨b,eb,-⟩:=Np n (IntKind.wrap .i64 ((m:Int)+1024))
 rw [ea,em]
 simp only [Option.bind_some]
 rw [eb]
 exact ⟨_,rfl⟩
def Gp (i:Nat) (o:Option (Int⊕(Int×Int))):Prop:=∃y,o=some (.inl y)∧(∃j:Nat,y=(j:Int)∧j≤4096)∧4096-y.toNat<4096-(i:Int).toNat
def Gq (o:Option (Int⊕(Int×Int))):Prop:=∃r,o=some (.inr r)∧∃h:Int,r=(h,0)∧0≤h∧h≤4095
theorem sW (n:Nat) (hn:4100<n) (z X Y:Int):∃h:Int,Bt (fun y:Int=>Ms n 0 z X Y y) n 0=some (h,0)∧0≤h∧h≤4095:=by
 obtain ⟨r,e,h,rfl,h2⟩:=E7 (S:=fun y:Int=>Ms n 0 z X Y y) (fun y=>∃i:Nat,y=(i:Int)∧i≤4096) (fun r=>∃h:Int,r=(h,0)∧0≤h∧h≤4095) (fun y=>4096-y.toNat) (fun y ⟨i,hy,hi⟩=>by
  subst hy
  unfold Ms
  by_cases c:i<4096
  ·rw [decide_eq_true (by omega),cond_true]
   have nx:IntKind.wrap .i64 ((i:Int)+1)=((i+1:Nat):Int):=wS (by omega)
   have go:∃y,(some (.inl (IntKind.wrap .i64 ((i:Int)+1))):Option (Int⊕(Int×Int)))=some (.inl y)∧(∃j:Nat,y=(j:Int)∧j≤4096)∧4096-y.toNat<4096-(i:Int).toNat:=⟨_,rfl,⟨i+1,nx,by omega⟩,by rw [nx];omega⟩
   obtain ⟨m,em,hm⟩:=J7 n (IntKind.wrap .i64 (z+(i:Int)))
   obtain ⟨m2,em2,hm2⟩:=J7 n (IntKind.wrap .i64 (z-(i:Int)))
   have tail:∀(k:Nat),k<4096→Gp i ((iD n (k:Int)).bind fun x706=>
(iD n (IntKind.wrap .i64 ((k:Int)+(1)))).bind fun x707=>
(iR n x706 (⟨X,Y⟩:TP)).bind fun x708=>
(iR n (⟨X,Y⟩:TP) x707).bind fun x709=>
bif (decide (x708≥(0))) then (
bif (decide (x709>(0))) then (
bif (decide ((IntKind.wrap .i64 ((IntKind.wrap .i64 (x706.X*X))+(IntKind.wrap .i64 (x706.Y*Y))))>(0))) then (
bif (decide (x708≤x709)) then (
some (.inr ((k:Int),(0)))) else (
(Zi n (IntKind.wrap .i64 ((k:Int)+(1)))).bind fun x710=>
some (.inr (x710,(0))))) else (
some (.inl (IntKind.wrap .i64 ((i:Int)+(1)))))) else (
some (.inl (IntKind.wrap .i64 ((i:Int)+(1)))))) else (
some (.inl (IntKind.wrap .i64 ((i:Int)+(1))))):Option (Int⊕(Int×Int)))∨Gq ((iD n (k:Int)).bind fun x706=>
(iD n (IntKind.wrap .i64 ((k:Int)+(1)))).bind fun x707=>
(iR n x706 (⟨X,Y⟩:TP)).bind fun x708=>
(iR n (⟨X,Y⟩:TP) x707).bind fun x709=>
bif (decide (x708≥(0))) then (
bif (decide (x709>(0))) then (
bif (decide ((IntKind.wrap .i64 ((IntKind.wrap .i64 (x706.X*X))+(IntKind.wrap .i64 (x706.Y*Y))))>(0))) then (
bif (decide (x708≤x709)) then (
some (.inr ((k:Int),(0)))) else (
(Zi n (IntKind.wrap .i64 ((k:Int)+(1)))).bind fun x710=>
some (.inr (x710,(0))))) else (
some (.inl (IntKind.wrap .i64 ((i:Int)+(1)))))) else (
some (.inl (IntKind.wrap .i64 ((i:Int)+(1)))))) else (
some (.inl (IntKind.wrap .i64 ((i:Int)+(1))))):Option (Int⊕(Int×Int))):=fun k hk=>by
    obtain ⟨p,ep⟩:=Yc n (k:Int)
    obtain ⟨q,eq⟩:=Yc n (IntKind.wrap .i64 ((k:Int)+1))
    obtain ⟨m3,em3,hm3⟩:=J7 n (IntKind.wrap .i64 ((k:Int)+1))
    rw [ep,eq]
    simp only [Option.bind_some]
    unfold iR
    simp only [Option.bind_some]
    rw [em3]
    refine V4 (P:=Gp i) (Q:=Gq) (fun _=> ?_) (fun _=> .inl go)
    refine V4 (P:=Gp i) (Q:=Gq) (fun _=> ?_) (fun _=> .inl go)
    refine V4 (P:=Gp i) (Q:=Gq) (fun _=> ?_) (fun _=> .inl go)
    refine V4 (P:=Gp i) (Q:=Gq) (fun _=> .inr ⟨_,rfl,_,rfl,by omega,by omega⟩) (fun _=> .inr ⟨_,rfl,_,rfl,by omega,by omega⟩)
   rw [em,em2]
   simp only [Option.bind_some]
   cases (Int.tmod (i:Int) 2==1) with
   |true=>rw [cond_true];exact tail m2 hm2
   |false=>rw [cond_false];exact tail m hm
  ·rw [decide_eq_false (by omega),cond_false]
   exact .inr ⟨_,rfl,_,rfl,by decide,by decide⟩) n 0 ⟨0,rfl,by decide⟩ (by show 4096-0<n;omega)
 exact ⟨h,e,h2⟩
theorem yL (n:Nat) (hn:4100<n) (v:TP):∃h e:Int,g41 n v=some (h,e)∧0≤h∧h≤4095:=by
 have key:(-2000000≤v.X∧v.X≤2000000)→(-2000000≤v.Y∧v.Y≤2000000)→∃h e:Int,((xV n (Jn v.X) (Jn v.Y)).bind fun x696=>
(A0 x696 4656722014701092864).bind fun x697=>
(I0 x697 4614256656552045848).bind fun x698=>
(g56 n x698).bind fun x700=>
(Qd .i64 x700).bind fun x701=>
Bt (fun y:Int=>Ms n (0) x701 v.X v.Y y) n (0))=some (h,e)∧0≤h∧h≤4095:=fun hX hY=>by
  obtain ⟨r,er,fr⟩:=gY n v.X v.Y hX hY
  obtain ⟨a,ea,fa,-⟩:=Fg fr (Du 4656722014701092864 11 (by decide+kernel)) (by decide) (by decide)
  obtain ⟨t,m,j,q1,q2,q3,-⟩:=Kh (Du 4614256656552045848 2 (by decide+kernel)) (lo:=1) (by unfold iV;decide+kernel)
  obtain ⟨b,eb,fb,-⟩:=L8 fa q1 q2 q3 (by decide) (by decide)
  obtain ⟨c,ec,fc⟩:=fD (a:=57) (fb.up (by decide) (by decide)) (by decide)
  obtain ⟨z,ez,-⟩:=bP fc (e:=58) (by decide) .i64 (.inr rfl) (by decide)
  obtain ⟨h,eh,h1,h2⟩:=sW n hn z v.X v.Y
  unfold g56
  rw [er,Option.bind_some,ea,Option.bind_some,eb,Option.bind_some,ec,Option.bind_some,Option.bind_some,ez,Option.bind_some,eh]
  exact ⟨h,0,rfl,h1,h2⟩
 unfold g41
 by_cases c1:v.X< -2000000
 ·rw [decide_eq_true c1,cond_true];exact ⟨0,4,rfl,by decide,by decide⟩
 rw [decide_eq_false c1,cond_false]
 by_cases c2:v.X>2000000
 ·rw [decide_eq_true c2,cond_true];exact ⟨0,4,rfl,by decide,by decide⟩
 rw [decide_eq_false c2,cond_false]
 by_cases c3:v.Y< -2000000
 ·rw [decide_eq_true c3,cond_true];exact ⟨0,4,rfl,by decide,by decide⟩
 rw [decide_eq_false c3,cond_false]
 by_cases c4:v.Y>2000000
 ·rw [decide_eq_true c4,cond_true];exact ⟨0,4,rfl,by decide,by decide⟩
 rw [decide_eq_false c4,cond_false]
 cases (v.X==0) with
 |false=>rw [cond_false];exact key ⟨by omega,by omega⟩ ⟨by omega,by omega⟩
 |true=>
  rw [cond_true]
  cases (v.Y==0) with
  |true=>exact ⟨0,10,rfl,by decide,by decide⟩
  |false=>rw [cond_false];exact key ⟨by omega,by omega⟩ ⟨by omega,by omega⟩
end Go.Proofs.YtmhnnmfcjdnlhaaGreatDoor
