/- A part. -/
import Derived.Test.YtmechmjjcgdpdaaGreatDoorX1E4
import Derived.Test.YtmechmjjcgdpdaaGreatDoorTcN
import Derived.Test.YtmechmjjcgdpdaaGreatDoorTcP
import Derived.Test.YtmechmjjcgdpdaaGreatDoorTcQ
import Derived.Test.YtmechmjjcgdpdaaGreatDoorShH
set_option linter.unusedVariables false
set_option linter.unusedSimpArgs false
set_option maxRecDepth 100000
set_option maxHeartbeats 4000000
namespace Go.Proofs.YtmechmjjcgdpdaaGreatDoor
theorem rT (n:Nat) (d:List (List Ad)) (e:Int) (f:Bool) (g:List Int) (Em:Int) (b:List Ab) (Ga i:Int) (c:List ByteArray) (j:Int) (h:ByteArray) (k l:Int) (a:List ByteArray) {t:(Int×Int×List ByteArray)⊕((Int×Int×List ByteArray)⊕Po)} (R:AV→Mem→Prop) (N0 N1:St→Prop) (hR:∀r:Po,t=(.inr (.inr r))→∀u m,B5 ((Ae r)) u m→R u m) (hN0:∀y:Int×Int×List ByteArray,t=(.inr (.inl y))→∀s':St,Bb KK 219 0 s' (dX (Ai (Ci Ad.E) d) e f (Ai Ce g) Em (B3 Aw 90000 y.2.2) (Ai Ab.E b) y.1 (Ai Ab.E b) Ga y.2.1 [(90000,B9 Aw 9 y.2.2)])→N0 s') (hN1:∀y:Int×Int×List ByteArray,t=(.inl y)→∀s':St,Bb KK 219 0 s' (R9 (Ai (Ci Ad.E) d) e f (Ai Ce g) Em (B3 Aw 90000 y.2.2) (Ai Ab.E b) y.1 (Ai Ab.E b) Ga i (Ai Aw c) j y.2.1 h (Ai Aw c) [(90000,B9 Aw 9 y.2.2)])→N1 s'):Om n d e f g Em b Ga i c j h k l a=some t→aQ (Ai (Ci Ad.E) d) e f (Ai Ce g) Em (B3 Aw 90000 a) (Ai Ab.E b) k (Ai Ab.E b) Ga i (Ai Aw c) j l h (Ai Aw c) [(90000,B9 Aw 9 a)] R N0 N1:=by
 unfold Om aQ
 refine As (fun _=> ?_) (fun _=> ?_)
 ·refine Aq fun o q=> ?_
  refine iq (AV.B6 [Bq o] 0) (Bo (E:=Aw) rfl q) ?_
  refine iq (Bq o) rfl ?_
  refine imp C1 ?_
  refine Aq fun x s=> ?_
  refine imp (E3 (E9 (Ca (Yo (E:=Aw) (ty:=9) (l':=a) _ Aw.nf rfl B8) (Ca (Li _ _) D1)) (Alk s) rfl)) ?_
  refine imp Ag ?_
  refine Aq fun z v=> ?_
  refine imp (Av (Apd v)) ?_
  refine imp Ec ?_
  refine imp C1 ?_
  refine imp Ag ?_
  refine As (fun _=> ?_) (fun _=> ?_)
  ·exact Ct hR rfl rfl
  ·refine As (fun _=> ?_) (fun _=> ?_)
   ·exact Ct hR rfl rfl
   ·refine As (fun _=> ?_) (fun _=> ?_)
    ·exact Ct hR rfl rfl
    ·refine Aq fun p w=> ?_
     refine iq (AV.B6 [Aa p] 0) (Bo (E:=Ce) rfl w) ?_
     refine iq (Aa p) rfl ?_
     refine imp Ag ?_
     exact fun hg=>hN1 _ (Option.some.inj hg).symm _ (Ax [(90000,90000),(300003,300003)] rfl rfl rfl (Ah (An (E:=(Ci Ad.E)) _ false) (oR (oR (Ah (An (E:=Ce) _ false) (oR (Ah (Cl (E:=Aw) (id:=90000) (l':=a) rfl rfl) (Ah (An (E:=Ab.E) _ false) (oR (oR (Ah (An (E:=Ab.E) _ false) (oR (oR (Ah (An (E:=Aw) _ false) (oR (oR A2))))))))))))))) (A0 (Ba (cs:=[Bq h,Ai Aw c]) (ty:=37) (by simp [clean,Ap,Aj]) (show Ao _ 300003=_ from B8)) (A0 (Cg (E:=Aw) (ty:=9) (l':=a) rfl (show Ao _ 90000=_ from B8)) Ay)))
 ·exact fun hg=>hN0 _ (Option.some.inj hg).symm _ (Ax [(90000,90000)] rfl rfl rfl (Ah (An (E:=(Ci Ad.E)) _ false) (oR (oR (Ah (An (E:=Ce) _ false) (oR (Ah (Cl (E:=Aw) (id:=90000) (l':=a) rfl rfl) (Ah (An (E:=Ab.E) _ false) (oR (Ah (An (E:=Ab.E) _ false) (oR (oR A2))))))))))) (A0 (Cg (E:=Aw) (ty:=9) (l':=a) rfl (show Ao _ 90000=_ from B8)) Ay))
theorem sG (n:Nat) (c:List (List Ad)) (d:Int) (f:Bool) (g:List Int) (Em:Int) (a:List Ab) (Ga i:Int) (b:List ByteArray) (j:Int) (l:ByteArray) {t:((Int×Int×List ByteArray)⊕Po)} (R:AV→Mem→Prop) (N0:St→Prop) (hR:∀r:Po,t=(.inr r)→∀u m,B5 ((Ae r)) u m→R u m) (hN0:∀y:Int×Int×List ByteArray,t=(.inl y)→∀s':St,Bb KK 219 0 s' (dX (Ai (Ci Ad.E) c) d f (Ai Ce g) Em (B3 Aw 90000 y.2.2) (Ai Ab.E a) y.1 (Ai Ab.E a) Ga y.2.1 [(90000,B9 Aw 9 y.2.2)])→N0 s') (k:Nat) (x:Int×Int×List ByteArray) (hx:A7 (fun y:Int×Int×List ByteArray=>Om n c d f g Em a Ga i b j l y.1 y.2.1 y.2.2) k x=some t) {s:St} (hw:Bb KK 219 0 s (R9 (Ai (Ci Ad.E) c) d f (Ai Ce g) Em (B3 Aw 90000 x.2.2) (Ai Ab.E a) x.1 (Ai Ab.E a) Ga i (Ai Aw b) j x.2.1 l (Ai Aw b) [(90000,B9 Aw 9 x.2.2)])):Bu pg KK 219 0 (.loop Zt) s (Yx R N0):=
 Ai2 R N0 (σ:=Nat×(Int×Int×List ByteArray)) (fun z=>A7 (fun y:Int×Int×List ByteArray=>Om n c d f g Em a Ga i b j l y.1 y.2.1 y.2.2) z.1 z.2=some t) (fun z=>(Ai (Ci Ad.E) c)) (fun z=>d) (fun z=>f) (fun z=>(Ai Ce g)) (fun z=>Em) (fun z=>(B3 Aw 90000 z.2.2.2)) (fun z=>(Ai Ab.E a)) (fun z=>z.2.1) (fun z=>(Ai Ab.E a)) (fun z=>Ga) (fun z=>i) (fun z=>(Ai Aw b)) (fun z=>j) (fun z=>z.2.2.1) (fun z=>l) (fun z=>(Ai Aw b)) (fun z=>[(90000,B9 Aw 9 z.2.2.2)]) (fun z=>z.1) (by
  rintro ⟨k,y⟩ h
  cases k with
  |zero=>exact (Bi h).elim
  |succ k=>
   obtain ⟨u,p,q,o⟩:=Bh h
   exact rT n c d f g Em a Ga i b j l y.1 y.2.1 y.2.2 R N0 _ (fun r e=>hR r (o _ e).symm) (fun y' e=>hN0 y' (o _ e).symm) (fun y' e s' hw=>⟨(k,y'),q _ e,Nat.lt_succ_self k,hw⟩) p) (k,x) hx hw
theorem Ahc (n:Nat) (b:Int) (c:Bool) (Em:Int) (d:List ByteArray) (e:List (List Ad)) (Ro f g:Int) (a:List ByteArray) {t:(Int×Int×List ByteArray)⊕Po} (R:AV→Mem→Prop) (N0:St→Prop) (hR:∀r:Po,t=(.inr r)→∀u m,B5 ((Ae r)) u m→R u m) (hN0:∀y:Int×Int×List ByteArray,t=(.inl y)→∀s':St,Bb KK 219 0 s' (rX b c Em (B3 Aw 90000 y.2.2) y.1 (Ai Aw d) (Ai (Ci Ad.E) e) Ro y.2.1 [(90000,B9 Aw 9 y.2.2)])→N0 s'):iT n b c Em d e Ro f g a=some t→Ag2 b c Em (B3 Aw 90000 a) f (Ai Aw d) (Ai (Ci Ad.E) e) Ro g [(90000,B9 Aw 9 a)] R N0:=by
 unfold iT Ag2
 refine As (fun _=> ?_) (fun _=> ?_)
 ·refine Aq fun h i=> ?_
  refine iq (AV.B6 [Ai Ad.E h] 0) (Bo (E:=(Ci Ad.E)) rfl i) ?_
  refine iq (Ai Ad.E h) rfl ?_
  refine Aq fun l j=> ?_
  refine imp (Av (Afu j)) ?_
  refine imp Ec ?_
  refine imp Jc ?_
  iterate 7 refine imp Ag ?_
  refine As (fun _=> ?_) (fun _=> ?_)
  ·exact fun hg=>hN0 _ (Option.some.inj hg).symm _ (Ax [(90000,90000)] rfl rfl rfl (oR (oR (oR (Ah (Cl (E:=Aw) (id:=90000) (l':=a) rfl rfl) (oR (Ah (An (E:=Aw) _ false) (Ah (An (E:=(Ci Ad.E)) _ false) (oR (oR A2))))))))) (A0 (Cg (E:=Aw) (ty:=9) (l':=a) rfl (show Ao _ 90000=_ from B8)) Ay))
  ·exact fun hg=>hN0 _ (Option.some.inj hg).symm _ (Ax [(90000,90000)] rfl rfl rfl (oR (oR (oR (Ah (Cl (E:=Aw) (id:=90000) (l':=a) rfl rfl) (oR (Ah (An (E:=Aw) _ false) (Ah (An (E:=(Ci Ad.E)) _ false) (oR (oR A2))))))))) (A0 (Cg (E:=Aw) (ty:=9) (l':=a) rfl (show Ao _ 90000=_ from B8)) Ay))
 ·refine As (fun _=> ?_) (fun _=> ?_)
  ·refine Aq fun o k=> ?_
   refine imp (E3 (E9 (Ca (Ob (E:=Aw) _ _ false) (Ca (Yo (E:=Aw) (ty:=9) (l':=a) _ Aw.nf rfl B8) D1)) (Aph k) rfl)) ?_
   refine imp Dn ?_
   refine As (fun _=> ?_) (fun _=> ?_)
   ·exact Ct hR rfl rfl
   ·exact Ct hR rfl rfl
  ·exact Ct hR rfl rfl
theorem Aey (n:Nat) (a:Int) (b:Bool) (Em:Int) (c:List ByteArray) (d:List (List Ad)) (Ro:Int) {t:Po} (R:AV→Mem→Prop) (hR:∀r:Po,t=r→∀u m,B5 ((Ae r)) u m→R u m) (k:Nat) (x:Int×Int×List ByteArray) (hx:A7 (fun y:Int×Int×List ByteArray=>iT n a b Em c d Ro y.1 y.2.1 y.2.2) k x=some t) {s:St} (hw:Bb KK 219 0 s (rX a b Em (B3 Aw 90000 x.2.2) x.1 (Ai Aw c) (Ai (Ci Ad.E) d) Ro x.2.1 [(90000,B9 Aw 9 x.2.2)])):Bu pg KK 219 0 (.loop Ti) s (Adj R):=
 Ao8 R (σ:=Nat×(Int×Int×List ByteArray)) (fun z=>A7 (fun y:Int×Int×List ByteArray=>iT n a b Em c d Ro y.1 y.2.1 y.2.2) z.1 z.2=some t) (fun z=>a) (fun z=>b) (fun z=>Em) (fun z=>(B3 Aw 90000 z.2.2.2)) (fun z=>z.2.1) (fun z=>(Ai Aw c)) (fun z=>(Ai (Ci Ad.E) d)) (fun z=>Ro) (fun z=>z.2.2.1) (fun z=>[(90000,B9 Aw 9 z.2.2.2)]) (fun z=>z.1) (by
  rintro ⟨k,y⟩ h
  cases k with
  |zero=>exact (Bi h).elim
  |succ k=>
   obtain ⟨u,f,g,i⟩:=Bh h
   exact Ahc n a b Em c d Ro y.1 y.2.1 y.2.2 R _ (fun r e=>hR r (i _ e).symm) (fun y' e s' hw=>⟨(k,y'),g _ e,Nat.lt_succ_self k,hw⟩) f) (k,x) hx hw
theorem Aec (n:Nat) (c:List (List Ad)) (f:Int) (g:Bool) (h:List Int) (Em:Int) (d:List Ab) (Ga j i:Int) (b:List ByteArray) {t:(Int×Int×List ByteArray)⊕Po} (R:AV→Mem→Prop) (N0:St→Prop) (hR:∀r:Po,t=(.inr r)→∀u m,B5 ((Ae r)) u m→R u m) (hN0:∀y:Int×Int×List ByteArray,t=(.inl y)→∀s':St,Bb KK 219 0 s' (dX (Ai (Ci Ad.E) c) f g (Ai Ce h) Em (B3 Aw 90000 y.2.2) (Ai Ab.E d) y.1 (Ai Ab.E d) Ga y.2.1 [(90000,B9 Aw 9 y.2.2)])→N0 s'):gL n c f g h Em d Ga j i b=some t→Aea (Ai (Ci Ad.E) c) f g (Ai Ce h) Em (B3 Aw 90000 b) (Ai Ab.E d) j (Ai Ab.E d) Ga i [(90000,B9 Aw 9 b)] R N0:=by
 unfold gL Aea
 refine As (fun _=> ?_) (fun _=> ?_)
 ·refine Aq fun a l=> ?_
  refine iq (AV.B6 [Bq a.Position,Ai Aw a.Ak] 0) (Bo (E:=Ab.E) rfl l) ?_
  refine iq (AV.agg [Bq a.Position,Ai Aw a.Ak]) rfl ?_
  refine imp Bw ?_
  refine imp C1 ?_
  refine imp (Dd rfl) ?_
  refine iq (Aa (a.Ak.length:Int)) rfl ?_
  refine imp Ag ?_
  exact fun hg=>sG n c f g h Em d Ga i a.Ak (a.Ak.length:Int) a.Position R N0 hR hN0 n _ hg (Ax [(90000,90000),(300003,300003)] rfl rfl rfl (Ah (An (E:=(Ci Ad.E)) _ false) (oR (oR (Ah (An (E:=Ce) _ false) (oR (Ah (Cl (E:=Aw) (id:=90000) (l':=b) rfl rfl) (Ah (An (E:=Ab.E) _ false) (oR (oR (Ah (An (E:=Ab.E) _ false) (oR (oR (Ah (An (E:=Aw) _ false) (oR (oR A2))))))))))))))) (A0 (Ba (cs:=[Bq a.Position,Ai Aw a.Ak]) (ty:=37) (by simp [clean,Ap,Aj]) (show Ao _ 300003=_ from B8)) (A0 (Cg (E:=Aw) (ty:=9) (l':=b) rfl (show Ao _ 90000=_ from B8)) Ay)))
 ·refine Aq fun k o=> ?_
  refine imp (Av (Aou o)) ?_
  refine imp Ec ?_
  refine imp Ag ?_
  refine Aq fun q p=> ?_
  have lh242:(Dr b).length=b.length:=Kg _
  refine imp (Nr Z9 lD dQ rfl B8 (Xc p)) ?_
  refine imp gP ?_
  refine iq (Aa (c.length:Int)) rfl ?_
  refine imp Ag ?_
  refine Hm fun s e0=> ?_
  exact fun hg=>Aey n f g k.2 k.1 c (c.length:Int) R (fun r e=>hR r (e0.trans (congrArg Sum.inr e))) n _ hg (Ax [(90000,90000)] rfl rfl rfl (oR (oR (oR (Ah (Cl (E:=Aw) (id:=90000) (l':=(Dr b)) (by first|rfl|omega|(simp;done)|(simp;omega)) rfl) (oR (Ah (An (E:=Aw) _ false) (Ah (An (E:=(Ci Ad.E)) _ false) (oR (oR A2))))))))) (A0 (Cg (E:=Aw) (ty:=9) (l':=(Dr b)) rfl (show Ao _ 90000=_ from B8)) Ay))
theorem Agv (n:Nat) (b:List (List Ad)) (c:Int) (d:Bool) (f:List Int) (Em:Int) (a:List Ab) (Ga:Int) {t:Po} (R:AV→Mem→Prop) (hR:∀r:Po,t=r→∀u m,B5 ((Ae r)) u m→R u m) (k:Nat) (x:Int×Int×List ByteArray) (hx:A7 (fun y:Int×Int×List ByteArray=>gL n b c d f Em a Ga y.1 y.2.1 y.2.2) k x=some t) {s:St} (hw:Bb KK 219 0 s (dX (Ai (Ci Ad.E) b) c d (Ai Ce f) Em (B3 Aw 90000 x.2.2) (Ai Ab.E a) x.1 (Ai Ab.E a) Ga x.2.1 [(90000,B9 Aw 9 x.2.2)])):Bu pg KK 219 0 (.loop Pr) s (Adf R):=
 Aoy R (σ:=Nat×(Int×Int×List ByteArray)) (fun z=>A7 (fun y:Int×Int×List ByteArray=>gL n b c d f Em a Ga y.1 y.2.1 y.2.2) z.1 z.2=some t) (fun z=>(Ai (Ci Ad.E) b)) (fun z=>c) (fun z=>d) (fun z=>(Ai Ce f)) (fun z=>Em) (fun z=>(B3 Aw 90000 z.2.2.2)) (fun z=>(Ai Ab.E a)) (fun z=>z.2.1) (fun z=>(Ai Ab.E a)) (fun z=>Ga) (fun z=>z.2.2.1) (fun z=>[(90000,B9 Aw 9 z.2.2.2)]) (fun z=>z.1) (by
  rintro ⟨k,y⟩ h
  cases k with
  |zero=>exact (Bi h).elim
  |succ k=>
   obtain ⟨u,g,i,j⟩:=Bh h
   exact Aec n b c d f Em a Ga y.1 y.2.1 y.2.2 R _ (fun r e=>hR r (j _ e).symm) (fun y' e s' hw=>⟨(k,y'),i _ e,Nat.lt_succ_self k,hw⟩) g) (k,x) hx hw
theorem Ago (n:Nat) (g:List (List Ad)) (h:Int) (i:Bool) (j:List Int) (Jt Em:Int) (k:List Int) (l:Int) (f:List Ab) (o:Int) (c:List ByteArray) {t:(List Ab×Int×List ByteArray)⊕Po} (R:AV→Mem→Prop) (N0:St→Prop) (hR:∀r:Po,t=(.inr r)→∀u m,B5 ((Ae r)) u m→R u m) (hN0:∀y:List Ab×Int×List ByteArray,t=(.inl y)→∀s':St,Bb KK 219 0 s' (rO (Ai (Ci Ad.E) g) h i (Ai Ce j) Jt Em (B3 Aw 90000 y.2.2) (Ai Ab.E y.1) (Ai Ce k) l y.2.1 [(90000,B9 Aw 9 y.2.2)])→N0 s'):gS n g h i j Jt Em k l f o c=some t→Ada (Ai (Ci Ad.E) g) h i (Ai Ce j) Jt Em (B3 Aw 90000 c) (Ai Ab.E f) (Ai Ce k) l o [(90000,B9 Aw 9 c)] R N0:=by
 unfold gS Ada
 refine As (fun _=> ?_) (fun _=> ?_)
 ·refine Aq fun p q=> ?_
  refine iq (AV.B6 [Aa p] 0) (Bo (E:=Ce) rfl q) ?_
  refine iq (Aa p) rfl ?_
  refine imp Ag ?_
  refine iq (Aa (f.length:Int)) rfl ?_
  refine imp Ag ?_
  refine As (fun _=> ?_) (fun _=> ?_)
  ·exact Ct hR rfl rfl
  ·refine imp (Cu (show _=some ((Aa (f.length:Int)),[]) from rfl)) ?_
   refine imp Ag ?_
   refine Aq fun ag s=> ?_
   refine imp (Ix (sg7 s)) ?_
   refine imp Ag ?_
   refine Aq fun a v=> ?_
   refine imp (Cu (show _=some ((AV.B6 [Bq a.Position,Ai Aw a.Ak] 0),[]) from (Bo (E:=Ab.E) rfl v))) ?_
   refine imp (Cu (show _=some ((AV.agg [Bq a.Position,Ai Aw a.Ak]),[]) from rfl)) ?_
   refine imp Bw ?_
   refine imp C1 ?_
   refine imp (Cu (show _=some ((Aa (f.length:Int)),[]) from rfl)) ?_
   refine imp Ag ?_
   refine Aq fun ah w=> ?_
   refine imp (Ix (sg7 w)) ?_
   refine imp Ag ?_
   refine Aq fun d x=> ?_
   refine imp (Cu (show _=some ((AV.B6 [Bq d.Position,Ai Aw d.Ak] 0),[]) from (Bo (E:=Ab.E) rfl x))) ?_
   refine imp (Cu (show _=some ((AV.agg [Bq d.Position,Ai Aw d.Ak]),[]) from rfl)) ?_
   refine imp Bw ?_
   refine imp C1 ?_
   refine imp (Bz (sz:=2) Bf Bf rfl rfl (cs:=[Bq (⟨#[]⟩:ByteArray),AV.Bp]) (cs':=[Bq a.Position,Ai Aw a.Ak]) (ty:=37) (by first|rfl|(rw [Dw (by first|rfl|simp [Dx]|simp [A3])];first|rfl|(simp (disch:=first|decide|assumption) only [lk]))) rfl rfl) ?_
   refine imp (Bz (sz:=2) Bf Bf rfl rfl (cs:=[Bq (⟨#[]⟩:ByteArray),AV.Bp]) (cs':=[Bq d.Position,Ai Aw d.Ak]) (ty:=37) (by first|rfl|(rw [Dw (by first|rfl|simp [Dx]|simp [A3])];first|rfl|(simp (disch:=first|decide|assumption) only [lk]))) rfl rfl) ?_
   refine imp (Dd Bf) ?_
   refine iq (Ai Aw a.Ak) (Cm (b:=⟨[Bq a.Position,Ai Aw a.Ak],37⟩) B8 rfl) ?_
   refine iq (Aa (a.Ak.length:Int)) rfl ?_
   refine imp Ag ?_
   refine As (fun _=> ?_) (fun _=> ?_)
   ·exact Ct hR rfl rfl
   ·refine iq (Bq a.Position) (Cm (b:=⟨[Bq a.Position,Ai Aw a.Ak],37⟩) B8 rfl) ?_
    refine imp C1 ?_
    refine iq (Bq d.Position) (Cm (b:=⟨[Bq d.Position,Ai Aw d.Ak],37⟩) B8 rfl) ?_
    refine imp C1 ?_
    refine Aq fun ai z=> ?_
    refine imp (Av (sg8 z)) ?_
    refine imp Ec ?_
    refine imp Ag ?_
    refine Aq fun aj aa=> ?_
    refine imp (Av (sg7 aa)) ?_
    refine imp Ag ?_
    refine As (fun _=> ?_) (fun _=> ?_)
    ·refine iq (Bq a.Position) (Cm (b:=⟨[Bq a.Position,Ai Aw a.Ak],37⟩) B8 rfl) ?_
     refine imp C1 ?_
     refine Aq fun ak ab=> ?_
     refine imp (E3 (E9 (Ca (Ob (E:=Ab.E) _ _ false) (Ca (Yo (E:=Aw) (ty:=9) (l':=c) _ Aw.nf rfl B8) D1)) (Aoz ab) rfl)) ?_
     refine imp C1 ?_
     refine iq (Ai Aw a.Ak) (Cm (b:=⟨[Bq a.Position,Ai Aw a.Ak],37⟩) B8 rfl) ?_
     refine Aq fun ad ae=> ?_
     refine iq (Ai Aw ad) (jZ (E:=Aw) (e:=9) Bf Bf rfl ae) ?_
     refine Aq fun am af=> ?_
     refine imp (Av (sg9 af)) ?_
     refine imp Ec ?_
     refine imp Ag ?_
     refine As (fun _=> ?_) (fun _=> ?_)
     ·exact fun hg=>hN0 _ (Option.some.inj hg).symm _ (Ax [(90000,90000)] rfl rfl rfl (Ah (An (E:=(Ci Ad.E)) _ false) (oR (oR (Ah (An (E:=Ce) _ false) (oR (oR (Ah (Cl (E:=Aw) (id:=90000) (l':=c) rfl rfl) (Ah (An (E:=Ab.E) _ false) (Ah (An (E:=Ce) _ false) (oR (oR A2))))))))))) (A0 (Cg (E:=Aw) (ty:=9) (l':=c) rfl (show Ao _ 90000=_ from B8)) Ay))
     ·exact fun hg=>hN0 _ (Option.some.inj hg).symm _ (Ax [(90000,90000)] rfl rfl rfl (Ah (An (E:=(Ci Ad.E)) _ false) (oR (oR (Ah (An (E:=Ce) _ false) (oR (oR (Ah (Cl (E:=Aw) (id:=90000) (l':=c) rfl rfl) (Ah (An (E:=Ab.E) _ false) (Ah (An (E:=Ce) _ false) (oR (oR A2))))))))))) (A0 (Cg (E:=Aw) (ty:=9) (l':=c) rfl (show Ao _ 90000=_ from B8)) Ay))
    ·refine As (fun _=> ?_) (fun _=> ?_)
     ·exact fun hg=>hN0 _ (Option.some.inj hg).symm _ (Ax [(90000,90000)] rfl rfl rfl (Ah (An (E:=(Ci Ad.E)) _ false) (oR (oR (Ah (An (E:=Ce) _ false) (oR (oR (Ah (Cl (E:=Aw) (id:=90000) (l':=c) rfl rfl) (Ah (An (E:=Ab.E) _ false) (Ah (An (E:=Ce) _ false) (oR (oR A2))))))))))) (A0 (Cg (E:=Aw) (ty:=9) (l':=c) rfl (show Ao _ 90000=_ from B8)) Ay))
     ·exact fun hg=>hN0 _ (Option.some.inj hg).symm _ (Ax [(90000,90000)] rfl rfl rfl (Ah (An (E:=(Ci Ad.E)) _ false) (oR (oR (Ah (An (E:=Ce) _ false) (oR (oR (Ah (Cl (E:=Aw) (id:=90000) (l':=c) rfl rfl) (Ah (An (E:=Ab.E) _ false) (Ah (An (E:=Ce) _ false) (oR (oR A2))))))))))) (A0 (Cg (E:=Aw) (ty:=9) (l':=c) rfl (show Ao _ 90000=_ from B8)) Ay))
 ·refine iq (Aa (f.length:Int)) rfl ?_
  refine imp Ag ?_
  refine Hm fun t0 e0=> ?_
  exact fun hg=>Agv n g h i j Em f (f.length:Int) R (fun r e=>hR r (e0.trans (congrArg Sum.inr e))) n _ hg (Ax [(90000,90000)] rfl rfl rfl (Ah (An (E:=(Ci Ad.E)) _ false) (oR (oR (Ah (An (E:=Ce) _ false) (oR (Ah (Cl (E:=Aw) (id:=90000) (l':=c) rfl rfl) (Ah (An (E:=Ab.E) _ false) (oR (Ah (An (E:=Ab.E) _ false) (oR (oR A2))))))))))) (A0 (Cg (E:=Aw) (ty:=9) (l':=c) rfl (show Ao _ 90000=_ from B8)) Ay))
theorem Aga (n:Nat) (a:List (List Ad)) (b:Int) (c:Bool) (d:List Int) (Jt Em:Int) (f:List Int) (g:Int) {t:Po} (R:AV→Mem→Prop) (hR:∀r:Po,t=r→∀u m,B5 ((Ae r)) u m→R u m) (k:Nat) (x:List Ab×Int×List ByteArray) (hx:A7 (fun y:List Ab×Int×List ByteArray=>gS n a b c d Jt Em f g y.1 y.2.1 y.2.2) k x=some t) {s:St} (hw:Bb KK 219 0 s (rO (Ai (Ci Ad.E) a) b c (Ai Ce d) Jt Em (B3 Aw 90000 x.2.2) (Ai Ab.E x.1) (Ai Ce f) g x.2.1 [(90000,B9 Aw 9 x.2.2)])):Bu pg KK 219 0 (.loop Tc) s (Agf R):=
 Apn R (σ:=Nat×(List Ab×Int×List ByteArray)) (fun z=>A7 (fun y:List Ab×Int×List ByteArray=>gS n a b c d Jt Em f g y.1 y.2.1 y.2.2) z.1 z.2=some t) (fun z=>(Ai (Ci Ad.E) a)) (fun z=>b) (fun z=>c) (fun z=>(Ai Ce d)) (fun z=>Jt) (fun z=>Em) (fun z=>(B3 Aw 90000 z.2.2.2)) (fun z=>(Ai Ab.E z.2.1)) (fun z=>(Ai Ce f)) (fun z=>g) (fun z=>z.2.2.1) (fun z=>[(90000,B9 Aw 9 z.2.2.2)]) (fun z=>z.1) (by
  rintro ⟨k,y⟩ h
  cases k with
  |zero=>exact (Bi h).elim
  |succ k=>
   obtain ⟨u,i,j,l⟩:=Bh h
   exact Ago n a b c d Jt Em f g y.1 y.2.1 y.2.2 R _ (fun r e=>hR r (l _ e).symm) (fun y' e s' hw=>⟨(k,y'),j _ e,Nat.lt_succ_self k,hw⟩) i) (k,x) hx hw
theorem Ad2 (n:Nat) (c:List Au) (g:List (List Ad)) (h:Int) (d:List Int) (i:Bool) (f:List Int) (Jt Em kA k:Int) (b:List ByteArray) {t:(Int×List ByteArray)⊕Po} (R:AV→Mem→Prop) (N0:St→Prop) (hR:∀r:Po,t=(.inr r)→∀u m,B5 ((Ae r)) u m→R u m) (hN0:∀y:Int×List ByteArray,t=(.inl y)→∀s':St,Bb KK 219 0 s' (rL (Ai Au.E c) (Ai (Ci Ad.E) g) h (Ai Ce d) i (Ai Ce f) Jt Em (B3 Aw 90000 y.2) (Ai Au.E c) kA y.1 [(90000,B9 Aw 9 y.2)])→N0 s'):qW n c g h d i f Jt Em kA k b=some t→Afg (Ai Au.E c) (Ai (Ci Ad.E) g) h (Ai Ce d) i (Ai Ce f) Jt Em (B3 Aw 90000 b) (Ai Au.E c) kA k [(90000,B9 Aw 9 b)] R N0:=by
 unfold qW Afg
 refine As (fun _=> ?_) (fun _=> ?_)
 ·refine Aq fun a l=> ?_
  refine iq (AV.B6 [Bq a.Name,Ai Al.E a.Room] 0) (Bo (E:=Au.E) rfl l) ?_
  refine iq (AV.agg [Bq a.Name,Ai Al.E a.Room]) rfl ?_
  refine imp Bw ?_
  refine imp C1 ?_
  refine imp (Dd rfl) ?_
  refine imp (Dm (show _=some ((Eu Aw 100008 ([a.Name]:List ByteArray)),[(100008,some ⟨Az Aw ([a.Name]:List ByteArray),9⟩)]) from rfl)) ?_
  refine Aq fun q o=> ?_
  refine imp (Dm (show _=some ((B3 Aw 100009 (b++([a.Name]:List ByteArray))),(Jj Aw 100009 90000 9 b ([a.Name]:List ByteArray))) from (Ie (E:=Aw) (l':=b) (xs:=([a.Name]:List ByteArray)) rfl rfl (Fq (E:=Aw) (ty:=9) rfl rfl B8) asE rfl (fun hne=>Eq.trans B8 (C7 hne)) o))) ?_
  exact fun hg=>hN0 _ (Option.some.inj hg).symm _ (Ax [(90000,100009)] rfl rfl rfl (Ah (An (E:=Au.E) _ false) (Ah (An (E:=(Ci Ad.E)) _ false) (oR (Ah (An (E:=Ce) _ false) (oR (Ah (An (E:=Ce) _ false) (oR (oR (Ah (Cl (E:=Aw) (id:=100009) (l':=(b++([a.Name]:List ByteArray))) rfl rfl) (Ah (An (E:=Au.E) _ false) (oR (oR A2)))))))))))) (A0 (Cg (E:=Aw) (ty:=9) (l':=(b++([a.Name]:List ByteArray))) rfl (show Ao _ 100009=_ from B8)) Ay))
 ·refine Aq fun j p=> ?_
  refine imp (Z5 (show Gw _ _ _ _ _ _ (AV.Bn [Ai Ab.E j.1,Aa j.2]) [] from Aoq rfl B8 p)) ?_
  refine imp Ec ?_
  refine imp Ag ?_
  refine As (fun _=> ?_) (fun _=> ?_)
  ·exact Ct hR rfl rfl
  ·refine iq (Aa (f.length:Int)) rfl ?_
   refine imp Ag ?_
   refine iq (Aa (c.length:Int)) rfl ?_
   refine imp Ag ?_
   refine As (fun _=> ?_) (fun _=> ?_)
   ·exact Ct hR rfl rfl
   ·refine iq (Aa (d.length:Int)) rfl ?_
    refine imp Ag ?_
    refine Hm fun s e0=> ?_
    exact fun hg=>Aga n g h i f Jt j.2 d (d.length:Int) R (fun r e=>hR r (e0.trans (congrArg Sum.inr e))) n _ hg (Ax [(90000,90000)] rfl rfl rfl (Ah (An (E:=(Ci Ad.E)) _ false) (oR (oR (Ah (An (E:=Ce) _ false) (oR (oR (Ah (Cl (E:=Aw) (id:=90000) (l':=b) rfl rfl) (Ah (An (E:=Ab.E) _ false) (Ah (An (E:=Ce) _ false) (oR (oR A2))))))))))) (A0 (Cg (E:=Aw) (ty:=9) (l':=b) rfl (show Ao _ 90000=_ from B8)) Ay))
theorem Ae5 (n:Nat) (a:List Au) (b:List (List Ad)) (c:Int) (d:List Int) (f:Bool) (g:List Int) (Jt Em kA:Int) {t:Po} (R:AV→Mem→Prop) (hR:∀r:Po,t=r→∀u m,B5 ((Ae r)) u m→R u m) (k:Nat) (x:Int×List ByteArray) (hx:A7 (fun y:Int×List ByteArray=>qW n a b c d f g Jt Em kA y.1 y.2) k x=some t) {s:St} (hw:Bb KK 219 0 s (rL (Ai Au.E a) (Ai (Ci Ad.E) b) c (Ai Ce d) f (Ai Ce g) Jt Em (B3 Aw 90000 x.2) (Ai Au.E a) kA x.1 [(90000,B9 Aw 9 x.2)])):Bu pg KK 219 0 (.loop Tb) s (Ag6 R):=
 Aox R (σ:=Nat×(Int×List ByteArray)) (fun z=>A7 (fun y:Int×List ByteArray=>qW n a b c d f g Jt Em kA y.1 y.2) z.1 z.2=some t) (fun z=>(Ai Au.E a)) (fun z=>(Ai (Ci Ad.E) b)) (fun z=>c) (fun z=>(Ai Ce d)) (fun z=>f) (fun z=>(Ai Ce g)) (fun z=>Jt) (fun z=>Em) (fun z=>(B3 Aw 90000 z.2.2)) (fun z=>(Ai Au.E a)) (fun z=>kA) (fun z=>z.2.1) (fun z=>[(90000,B9 Aw 9 z.2.2)]) (fun z=>z.1) (by
  rintro ⟨k,y⟩ h
  cases k with
  |zero=>exact (Bi h).elim
  |succ k=>
   obtain ⟨u,i,j,l⟩:=Bh h
   exact Ad2 n a b c d f g Jt Em kA y.1 y.2 R _ (fun r e=>hR r (l _ e).symm) (fun y' e s' hw=>⟨(k,y'),j _ e,Nat.lt_succ_self k,hw⟩) i) (k,x) hx hw
theorem Alz (n:Nat) (a:List Au) (c:List (List Ad)) (d:Int) (b:List Int) {t:Po} (R:AV→Mem→Prop) (hR:∀r:Po,t=r→∀u m,B5 ((Ae r)) u m→R u m):g3 n a c d b=some t→F3 (Ai Au.E a) (Ai (Ci Ad.E) c) d (Ai Ce b) R:=by
 unfold g3 F3
 refine Aq fun h f=> ?_
 refine imp (Av (sg4 f)) ?_
 refine imp Dn ?_
 refine As (fun _=> ?_) (fun _=> ?_)
 ·exact Ct hR rfl rfl
 ·refine Aq fun e g=> ?_
  refine imp (Gh (sg5 g)) ?_
  refine imp Alc ?_
  iterate 2 refine imp Ag ?_
  refine As (fun _=> ?_) (fun _=> ?_)
  ·exact Ct hR rfl rfl
  ·refine iq (Aa (b.length:Int)) rfl ?_
   refine imp Ag ?_
   refine As (fun _=> ?_) (fun _=> ?_)
   ·exact Ct hR rfl rfl
   ·refine iq (Aa (a.length:Int)) rfl ?_
    refine imp Ag ?_
    refine As (fun _=> ?_) (fun _=> ?_)
    ·exact Ct hR rfl rfl
    ·refine iq (Aa (a.length:Int)) rfl ?_
     refine imp Ag ?_
     exact fun hg=>Ae5 n a c d b false e.1 e.2.1 e.2.2 (a.length:Int) R hR n _ hg (Ax [(90000,89500)] rfl rfl rfl (Ah (An (E:=Au.E) _ false) (Ah (An (E:=(Ci Ad.E)) _ false) (oR (Ah (An (E:=Ce) _ false) (oR (Ah (An (E:=Ce) _ false) (oR (oR (Ah Ft (Ah (An (E:=Au.E) _ false) (oR (oR A2)))))))))))) (A0 Mx Ay))
theorem sg3 {n:Nat} {a:List Au} {b:List (List Ad)} {c:Int} {d:List Int} {t:Po} (h:g3 n a b c d=some t):Cj pg KK.gl 3 [Ai Au.E a,Ai (Ci Ad.E) b,Aa c,Ai Ce d] ((Ae t)):=
 A1 (by first|rfl|simp [Ap,clean,Aj,En.Cs]) (by first|rfl|simp [Ap,clean,Aj,En.Cs]) (Ak0 (Ai Au.E a) (Ai (Ci Ad.E) b) c (Ai Ce d) _ (Alz n a b c d (B5 ((Ae t))) (fun r e u m h=>by rw [e];exact h) h))
end Go.Proofs.YtmechmjjcgdpdaaGreatDoor
