/- A part. -/
import Derived.Test.YtmechmjjcgdpdaaGreatDoorX1E3
set_option linter.unusedVariables false
set_option linter.unusedSimpArgs false
set_option maxRecDepth 100000
set_option maxHeartbeats 4000000
namespace Go.Proofs.YtmechmjjcgdpdaaGreatDoor
theorem fH (n:Nat) (b:List Au) (g d h:Int) (Mm:List Al) (dV:Int) (f:ByteArray) (i:Int) (a:List Al) {t:(Int×List Al)⊕((Int×List Al)⊕Fj)} (R:AV→Mem→Prop) (N0 N1:St→Prop) (hR:∀r:Fj,t=(.inr (.inr r))→∀u m,B5 ((Aa r)) u m→R u m) (hN0:∀y:Int×List Al,t=(.inr (.inl y))→∀s':St,Bb KK 87 0 s' (Mg (Ai Au.E b) g (B3 Al.E 90000 y.2) (Ai Au.E b) h y.1 [(90000,B9 Al.E 316 y.2)])→N0 s') (hN1:∀y:Int×List Al,t=(.inl y)→∀s':St,Bb KK 87 0 s' (J7 (Ai Au.E b) g (B3 Al.E 90000 y.2) d (Ai Au.E b) h d (Ai Al.E Mm) dV y.1 f (Ai Al.E Mm) [(90000,B9 Al.E 316 y.2)])→N1 s'):Ej n b g d h Mm dV f i a=some t→P0 (Ai Au.E b) g (B3 Al.E 90000 a) d (Ai Au.E b) h d (Ai Al.E Mm) dV i f (Ai Al.E Mm) [(90000,B9 Al.E 316 a)] R N0 N1:=by
 unfold Ej P0
 refine As (fun _=> ?_) (fun _=> ?_)
 ·refine Aq fun c j=> ?_
  refine iq (AV.B6 [Ai TP.E c.D0,Aa c.Hw,Aa c.D4] 0) (Bo (E:=Al.E) rfl j) ?_
  refine iq (AV.agg [Ai TP.E c.D0,Aa c.Hw,Aa c.D4]) rfl ?_
  refine imp Vb ?_
  iterate 2 refine imp Ag ?_
  refine imp (Dd rfl) ?_
  refine Aq fun v k=> ?_
  refine imp (Av (Ahw k)) ?_
  refine imp Ag ?_
  refine As (fun _=> ?_) (fun _=> ?_)
  ·exact Ct hR rfl rfl
  ·exact fun hg=>hN1 _ (Option.some.inj hg).symm _ (Ax [(90000,90000),(100004,100004)] rfl rfl rfl (Ah (An (E:=Au.E) _ false) (oR (Ah (Cl (E:=Al.E) (id:=90000) (l':=a) rfl rfl) (oR (oR (Ah (An (E:=Au.E) _ false) (oR (oR (Ah (An (E:=Al.E) _ false) (oR (oR A2))))))))))) (A0 (Ba (cs:=[Bq f,Ai Al.E Mm]) (ty:=32) (by simp [clean,Ap,Aj]) (show Ao _ 100004=_ from B8)) (A0 (Cg (E:=Al.E) (ty:=316) (l':=a) rfl (show Ao _ 90000=_ from B8)) Ay)))
 ·refine Aq fun l o=> ?_
  refine iq (Ai Au.E l) (jZ (E:=Au.E) (e:=32) Bf Bf rfl o) ?_
  refine Aq fun w p=> ?_
  refine imp (E3 (E9 (Ca (Ob (E:=Au.E) _ _ false) (Ca (mT _ _ (Ca (Ur _ (ty:=32) (us:=[Bq f,Ai Al.E Mm]) B8 (Ca (Li _ _) (Ca (Ob (E:=Al.E) _ _ false) D1))) D1)) D1)) (Amz p) rfl)) ?_
  refine imp Dn ?_
  refine As (fun _=> ?_) (fun _=> ?_)
  ·exact Ct hR rfl rfl
  ·refine Aq fun x q=> ?_
   have neh147:=cC q
   refine Aq fun z s=> ?_
   refine imp (Dm (show _=some ((B3 Al.E 200072 (a++Mm)),(Jj Al.E 200072 90000 316 a Mm)) from (Ie (E:=Al.E) (l':=a) (xs:=Mm) rfl rfl (Sv (E:=Al.E) rfl Mm false) asE rfl (fun hne=>Eq.trans B8 (C7 hne)) s))) ?_
   exact fun hg=>hN0 _ (Option.some.inj hg).symm _ (Ax [(90000,200072)] rfl rfl rfl (Ah (An (E:=Au.E) _ false) (oR (Ah (Cl (E:=Al.E) (id:=200072) (l':=(a++Mm)) rfl rfl) (Ah (An (E:=Au.E) _ false) (oR (oR A2)))))) (A0 (Cg (E:=Al.E) (ty:=316) (l':=(a++Mm)) rfl (show Ao _ 200072=_ from B8)) Ay))
theorem fU (n:Nat) (a:List Au) (c b d:Int) (Mm:List Al) (dV:Int) (f:ByteArray) {t:((Int×List Al)⊕Fj)} (R:AV→Mem→Prop) (N0:St→Prop) (hR:∀r:Fj,t=(.inr r)→∀u m,B5 ((Aa r)) u m→R u m) (hN0:∀y:Int×List Al,t=(.inl y)→∀s':St,Bb KK 87 0 s' (Mg (Ai Au.E a) c (B3 Al.E 90000 y.2) (Ai Au.E a) d y.1 [(90000,B9 Al.E 316 y.2)])→N0 s') (k:Nat) (x:Int×List Al) (hx:A7 (fun y:Int×List Al=>Ej n a c b d Mm dV f y.1 y.2) k x=some t) {s:St} (hw:Bb KK 87 0 s (J7 (Ai Au.E a) c (B3 Al.E 90000 x.2) b (Ai Au.E a) d b (Ai Al.E Mm) dV x.1 f (Ai Al.E Mm) [(90000,B9 Al.E 316 x.2)])):Bu pg KK 87 0 (.loop Ot) s (Qt R N0):=
 Aa4 R N0 (σ:=Nat×(Int×List Al)) (fun z=>A7 (fun y:Int×List Al=>Ej n a c b d Mm dV f y.1 y.2) z.1 z.2=some t) (fun z=>(Ai Au.E a)) (fun z=>c) (fun z=>(B3 Al.E 90000 z.2.2)) (fun z=>b) (fun z=>(Ai Au.E a)) (fun z=>d) (fun z=>b) (fun z=>(Ai Al.E Mm)) (fun z=>dV) (fun z=>z.2.1) (fun z=>f) (fun z=>(Ai Al.E Mm)) (fun z=>[(90000,B9 Al.E 316 z.2.2)]) (fun z=>z.1) (by
  rintro ⟨k,y⟩ h
  cases k with
  |zero=>exact (Bi h).elim
  |succ k=>
   obtain ⟨u,i,j,g⟩:=Bh h
   exact fH n a c b d Mm dV f y.1 y.2 R N0 _ (fun r e=>hR r (g _ e).symm) (fun y' e=>hN0 y' (g _ e).symm) (fun y' e s' hw=>⟨(k,y'),j _ e,Nat.lt_succ_self k,hw⟩) i) (k,x) hx hw
theorem fR (n:Nat) (c:Int) (a:List Al) (d h:Int) (i:List Al) (j:Int) (e:List TP) (f g k:Int) {t:(Int)⊕((Int)⊕Fj)} (R:AV→Mem→Prop) (N0 N1:St→Prop) (hR:∀r:Fj,t=(.inr (.inr r))→∀u m,B5 ((Aa r)) u m→R u m) (hN0:∀y:Int,t=(.inr (.inl y))→∀s':St,Bb KK 87 0 s' (Mp c (Ai Al.E a) (Ai Al.E a) d y [])→N0 s') (hN1:∀y:Int,t=(.inl y)→∀s':St,Bb KK 87 0 s' (Ki c (Ai Al.E a) (Ai Al.E a) d h (Ai Al.E i) j y (Ai TP.E e) f g [])→N1 s'):Gz n c a d h i j e f g k=some t→Pz c (Ai Al.E a) (Ai Al.E a) d h (Ai Al.E i) j k (Ai TP.E e) f g [] R N0 N1:=by
 unfold Gz Pz
 refine As (fun _=> ?_) (fun _=> ?_)
 ·refine Aq fun b l=> ?_
  refine iq (AV.B6 [Ai TP.E b.D0,Aa b.Hw,Aa b.D4] 0) (Bo (E:=Al.E) rfl l) ?_
  refine iq (AV.agg [Ai TP.E b.D0,Aa b.Hw,Aa b.D4]) rfl ?_
  refine imp Vb ?_
  iterate 2 refine imp Ag ?_
  refine imp (Dd rfl) ?_
  refine Aq fun p o=> ?_
  refine imp (Av (Amu o)) ?_
  refine imp Ec ?_
  refine imp Dn ?_
  refine imp Ag ?_
  refine As (fun _=> ?_) (fun _=> ?_)
  ·exact Ct hR rfl rfl
  ·exact fun hg=>hN1 _ (Option.some.inj hg).symm _ (Ax [(200004,200004)] rfl rfl rfl (oR (Ah (An (E:=Al.E) _ false) (oR (Ah (An (E:=Al.E) _ false) (oR (oR (Ah (An (E:=Al.E) _ false) (oR (oR A2))))))))) (A0 (Ba (cs:=[Ai TP.E e,Aa f,Aa g]) (ty:=316) (by simp [clean,Ap,Aj]) (show Ao _ 200004=_ from B8)) Ay))
 ·exact fun hg=>hN0 _ (Option.some.inj hg).symm _ (Ax [] rfl rfl rfl (oR (Ah (An (E:=Al.E) _ false) (Ah (An (E:=Al.E) _ false) (oR (oR A2))))) Ay)
theorem dY (n:Nat) (b:Int) (a:List Al) (c d:Int) (f:List Al) (g:Int) (i:List TP) (j l:Int) {t:((Int)⊕Fj)} (R:AV→Mem→Prop) (N0:St→Prop) (hR:∀r:Fj,t=(.inr r)→∀u m,B5 ((Aa r)) u m→R u m) (hN0:∀y:Int,t=(.inl y)→∀s':St,Bb KK 87 0 s' (Mp b (Ai Al.E a) (Ai Al.E a) c y [])→N0 s') (k:Nat) (x:Int) (hx:A7 (fun y:Int=>Gz n b a c d f g i j l y) k x=some t) {s:St} (hw:Bb KK 87 0 s (Ki b (Ai Al.E a) (Ai Al.E a) c d (Ai Al.E f) g x (Ai TP.E i) j l [])):Bu pg KK 87 0 (.loop Oq) s (Pq R N0):=
 xU R N0 (σ:=Nat×(Int)) (fun z=>A7 (fun y:Int=>Gz n b a c d f g i j l y) z.1 z.2=some t) (fun z=>b) (fun z=>(Ai Al.E a)) (fun z=>(Ai Al.E a)) (fun z=>c) (fun z=>d) (fun z=>(Ai Al.E f)) (fun z=>g) (fun z=>z.2) (fun z=>(Ai TP.E i)) (fun z=>j) (fun z=>l) (fun z=>[]) (fun z=>z.1) (by
  rintro ⟨k,y⟩ h
  cases k with
  |zero=>exact (Bi h).elim
  |succ k=>
   obtain ⟨u,p,q,o⟩:=Bh h
   exact fR n b a c d f g i j l y R N0 _ (fun r e=>hR r (o _ e).symm) (fun y' e=>hN0 y' (o _ e).symm) (fun y' e s' hw=>⟨(k,y'),q _ e,Nat.lt_succ_self k,hw⟩) p) (k,x) hx hw
theorem pW (n:Nat) (c:Int) (b:List Al) (d g:Int) {t:(Int)⊕Fj} (R:AV→Mem→Prop) (N0:St→Prop) (hR:∀r:Fj,t=(.inr r)→∀u m,B5 ((Aa r)) u m→R u m) (hN0:∀y:Int,t=(.inl y)→∀s':St,Bb KK 87 0 s' (Mp c (Ai Al.E b) (Ai Al.E b) d y [])→N0 s'):I6 n c b d g=some t→Zv c (Ai Al.E b) (Ai Al.E b) d g [] R N0:=by
 unfold I6 Zv
 refine As (fun _=> ?_) (fun _=> ?_)
 ·refine Aq fun a h=> ?_
  refine iq (AV.B6 [Ai TP.E a.D0,Aa a.Hw,Aa a.D4] 0) (Bo (E:=Al.E) rfl h) ?_
  refine iq (AV.agg [Ai TP.E a.D0,Aa a.Hw,Aa a.D4]) rfl ?_
  refine imp Vb ?_
  iterate 2 refine imp Ag ?_
  refine imp (Dd rfl) ?_
  refine Aq fun f i=> ?_
  refine iq (Ai Al.E f) (jZ (E:=Al.E) (e:=316) Bf Bf rfl i) ?_
  refine iq (Aa (f.length:Int)) rfl ?_
  refine imp Ag ?_
  exact fun hg=>dY n c b d g f (f.length:Int) a.D0 a.Hw a.D4 R N0 hR hN0 n _ hg (Ax [(200004,200004)] rfl rfl rfl (oR (Ah (An (E:=Al.E) _ false) (oR (Ah (An (E:=Al.E) _ false) (oR (oR (Ah (An (E:=Al.E) _ false) (oR (oR A2))))))))) (A0 (Ba (cs:=[Ai TP.E a.D0,Aa a.Hw,Aa a.D4]) (ty:=316) (by simp [clean,Ap,Aj]) (show Ao _ 200004=_ from B8)) Ay))
 ·exact Ct hR rfl rfl
theorem sT (n:Nat) (b:Int) (a:List Al) (c:Int) {t:Fj} (R:AV→Mem→Prop) (hR:∀r:Fj,t=r→∀u m,B5 ((Aa r)) u m→R u m) (k:Nat) (x:Int) (hx:A7 (fun y:Int=>I6 n b a c y) k x=some t) {s:St} (hw:Bb KK 87 0 s (Mp b (Ai Al.E a) (Ai Al.E a) c x [])):Bu pg KK 87 0 (.loop Sd) s (aB R):=
 Aiu R (σ:=Nat×(Int)) (fun z=>A7 (fun y:Int=>I6 n b a c y) z.1 z.2=some t) (fun z=>b) (fun z=>(Ai Al.E a)) (fun z=>(Ai Al.E a)) (fun z=>c) (fun z=>z.2) (fun z=>[]) (fun z=>z.1) (by
  rintro ⟨k,y⟩ h
  cases k with
  |zero=>exact (Bi h).elim
  |succ k=>
   obtain ⟨u,d,f,g⟩:=Bh h
   exact pW n b a c y R _ (fun r e=>hR r (g _ e).symm) (fun y' e s' hw=>⟨(k,y'),f _ e,Nat.lt_succ_self k,hw⟩) d) (k,x) hx hw
theorem qY (n:Nat) (c:List Au) (d f g:Int) (b:List Al) {t:(Int×List Al)⊕Fj} (R:AV→Mem→Prop) (N0:St→Prop) (hR:∀r:Fj,t=(.inr r)→∀u m,B5 ((Aa r)) u m→R u m) (hN0:∀y:Int×List Al,t=(.inl y)→∀s':St,Bb KK 87 0 s' (Mg (Ai Au.E c) d (B3 Al.E 90000 y.2) (Ai Au.E c) f y.1 [(90000,B9 Al.E 316 y.2)])→N0 s'):G6 n c d f g b=some t→aJ (Ai Au.E c) d (B3 Al.E 90000 b) (Ai Au.E c) f g [(90000,B9 Al.E 316 b)] R N0:=by
 unfold G6 aJ
 refine As (fun _=> ?_) (fun _=> ?_)
 ·refine Aq fun a h=> ?_
  refine iq (AV.B6 [Bq a.Name,Ai Al.E a.Room] 0) (Bo (E:=Au.E) rfl h) ?_
  refine iq (AV.agg [Bq a.Name,Ai Al.E a.Room]) rfl ?_
  refine imp Bw ?_
  refine imp C1 ?_
  refine imp (Dd rfl) ?_
  refine Aq fun j i=> ?_
  refine imp (Av (Ano i)) ?_
  refine imp Dn ?_
  refine As (fun _=> ?_) (fun _=> ?_)
  ·exact Ct hR rfl rfl
  ·refine iq (Aa (a.Room.length:Int)) rfl ?_
   refine imp Ag ?_
   refine As (fun _=> ?_) (fun _=> ?_)
   ·exact Ct hR rfl rfl
   ·refine iq (Aa (a.Room.length:Int)) rfl ?_
    refine imp Ag ?_
    refine As (fun _=> ?_) (fun _=> ?_)
    ·exact Ct hR rfl rfl
    ·refine iq (Aa (a.Room.length:Int)) rfl ?_
     refine imp Ag ?_
     exact fun hg=>fU n c d g f a.Room (a.Room.length:Int) a.Name R N0 hR hN0 n _ hg (Ax [(90000,90000),(100004,100004)] rfl rfl rfl (Ah (An (E:=Au.E) _ false) (oR (Ah (Cl (E:=Al.E) (id:=90000) (l':=b) rfl rfl) (oR (oR (Ah (An (E:=Au.E) _ false) (oR (oR (Ah (An (E:=Al.E) _ false) (oR (oR A2))))))))))) (A0 (Ba (cs:=[Bq a.Name,Ai Al.E a.Room]) (ty:=32) (by simp [clean,Ap,Aj]) (show Ao _ 100004=_ from B8)) (A0 (Cg (E:=Al.E) (ty:=316) (l':=b) rfl (show Ao _ 90000=_ from B8)) Ay)))
 ·refine imp (Ds (show _=some ((Aa (b.length:Int)),[]) from Qx)) ?_
  refine imp Ag ?_
  refine Hm fun k e0=> ?_
  exact fun hg=>sT n d b (b.length:Int) R (fun r e=>hR r (e0.trans (congrArg Sum.inr e))) n _ hg (Ax [] rfl rfl rfl (oR (Ah (Ss (E:=Al.E) (ty:=316) (l':=b) rfl B8 rfl) (Ah (Ss (E:=Al.E) (ty:=316) (l':=b) rfl B8 rfl) (oR (oR A2))))) Ay)
theorem p6 (n:Nat) (a:List Au) (b c:Int) {t:Fj} (R:AV→Mem→Prop) (hR:∀r:Fj,t=r→∀u m,B5 ((Aa r)) u m→R u m) (k:Nat) (x:Int×List Al) (hx:A7 (fun y:Int×List Al=>G6 n a b c y.1 y.2) k x=some t) {s:St} (hw:Bb KK 87 0 s (Mg (Ai Au.E a) b (B3 Al.E 90000 x.2) (Ai Au.E a) c x.1 [(90000,B9 Al.E 316 x.2)])):Bu pg KK 87 0 (.loop R5) s (aN R):=
 Ajs R (σ:=Nat×(Int×List Al)) (fun z=>A7 (fun y:Int×List Al=>G6 n a b c y.1 y.2) z.1 z.2=some t) (fun z=>(Ai Au.E a)) (fun z=>b) (fun z=>(B3 Al.E 90000 z.2.2)) (fun z=>(Ai Au.E a)) (fun z=>c) (fun z=>z.2.1) (fun z=>[(90000,B9 Al.E 316 z.2.2)]) (fun z=>z.1) (by
  rintro ⟨k,y⟩ h
  cases k with
  |zero=>exact (Bi h).elim
  |succ k=>
   obtain ⟨u,d,f,g⟩:=Bh h
   exact qY n a b c y.1 y.2 R _ (fun r e=>hR r (g _ e).symm) (fun y' e s' hw=>⟨(k,y'),f _ e,Nat.lt_succ_self k,hw⟩) d) (k,x) hx hw
theorem Adn (n:Nat) (a:List Au) {t:Fj} (R:AV→Mem→Prop) (hR:∀r:Fj,t=r→∀u m,B5 ((Aa r)) u m→R u m):fB n a=some t→Ac2 (Ai Au.E a) R:=by
 unfold fB Ac2
 refine iq (Aa (a.length:Int)) rfl ?_
 refine imp Ag ?_
 refine As (fun _=> ?_) (fun _=> ?_)
 ·exact Ct hR rfl rfl
 ·refine iq (Aa (a.length:Int)) rfl ?_
  refine imp Ag ?_
  exact fun hg=>p6 n a (0) (a.length:Int) R hR n _ hg (Ax [(90000,89500)] rfl rfl rfl (Ah (An (E:=Au.E) _ false) (oR (Ah Ft (Ah (An (E:=Au.E) _ false) (oR (oR A2)))))) (A0 Mx Ay))
theorem Al1 {n:Nat} {a:List Au} {t:Fj} (h:fB n a=some t):Cj pg KK.gl 119 [Ai Au.E a] ((Aa t)):=
 A1 (by first|rfl|simp [Ap,clean,Aj,En.Cs]) (by first|rfl|simp [Ap,clean,Aj,En.Cs]) (zM (Ai Au.E a) _ (Adn n a (B5 ((Aa t))) (fun r e u m h=>by rw [e];exact h) h))
theorem uP (n:Nat) (a:Int) (b:List (List Ad)) (c d:Int) {t:(Int)⊕Y3} (R:AV→Mem→Prop) (N0:St→Prop) (hR:∀r:Y3,t=(.inr r)→∀u m,B5 ((Aa r)) u m→R u m) (hN0:∀y:Int,t=(.inl y)→∀s':St,Bb KK 29 0 s' (Wy a (Ai (Ci Ad.E) b) c y [])→N0 s'):Lv n a b c d=some t→mS a (Ai (Ci Ad.E) b) c d [] R N0:=by
 unfold Lv mS
 refine As (fun _=> ?_) (fun _=> ?_)
 ·refine Aq fun e f=> ?_
  refine iq (AV.B6 [Ai Ad.E e] 0) (Bo (E:=(Ci Ad.E)) rfl f) ?_
  refine iq (Ai Ad.E e) rfl ?_
  refine Aq fun h g=> ?_
  refine imp (Av (Ak9 g)) ?_
  refine imp Ag ?_
  refine As (fun _=> ?_) (fun _=> ?_)
  ·exact Ct hR rfl rfl
  ·exact fun hg=>hN0 _ (Option.some.inj hg).symm _ (Ax [] rfl rfl rfl (oR (Ah (An (E:=(Ci Ad.E)) _ false) (oR (oR A2)))) Ay)
 ·exact Ct hR rfl rfl
theorem Aae (n:Nat) (a:Int) (b:List (List Ad)) (c:Int) {t:Y3} (R:AV→Mem→Prop) (hR:∀r:Y3,t=r→∀u m,B5 ((Aa r)) u m→R u m) (k:Nat) (x:Int) (hx:A7 (fun y:Int=>Lv n a b c y) k x=some t) {s:St} (hw:Bb KK 29 0 s (Wy a (Ai (Ci Ad.E) b) c x [])):Bu pg KK 29 0 (.loop lZ) s (nI R):=
 Alu R (σ:=Nat×(Int)) (fun z=>A7 (fun y:Int=>Lv n a b c y) z.1 z.2=some t) (fun z=>a) (fun z=>(Ai (Ci Ad.E) b)) (fun z=>c) (fun z=>z.2) (fun z=>[]) (fun z=>z.1) (by
  rintro ⟨k,y⟩ h
  cases k with
  |zero=>exact (Bi h).elim
  |succ k=>
   obtain ⟨u,d,f,g⟩:=Bh h
   exact uP n a b c y R _ (fun r e=>hR r (g _ e).symm) (fun y' e s' hw=>⟨(k,y'),f _ e,Nat.lt_succ_self k,hw⟩) d) (k,x) hx hw
theorem Akz (n:Nat) (b:List Au) (a:List (List Ad)) {t:Y3} (R:AV→Mem→Prop) (hR:∀r:Y3,t=r→∀u m,B5 ((Aa r)) u m→R u m):g41 n b a=some t→F41 (Ai Au.E b) (Ai (Ci Ad.E) a) R:=by
 unfold g41 F41
 refine Aq fun d c=> ?_
 refine imp (Av (Al1 c)) ?_
 refine imp Ag ?_
 refine As (fun _=> ?_) (fun _=> ?_)
 ·exact Ct hR rfl rfl
 ·refine iq (Aa (a.length:Int)) rfl ?_
  refine imp Ag ?_
  refine As (fun _=> ?_) (fun _=> ?_)
  ·exact Ct hR rfl rfl
  ·refine iq (Aa (a.length:Int)) rfl ?_
   refine imp Ag ?_
   exact fun hg=>Aae n (0) a (a.length:Int) R hR n _ hg (Ax [] rfl rfl rfl (oR (Ah (An (E:=(Ci Ad.E)) _ false) (oR (oR A2)))) Ay)
theorem Ao3 {n:Nat} {a:List Au} {b:List (List Ad)} {t:Y3} (h:g41 n a b=some t):Cj pg KK.gl 41 [Ai Au.E a,Ai (Ci Ad.E) b] ((Aa t)):=
 A1 (by first|rfl|simp [Ap,clean,Aj,En.Cs]) (by first|rfl|simp [Ap,clean,Aj,En.Cs]) (Ag4 (Ai Au.E a) (Ai (Ci Ad.E) b) _ (Akz n a b (B5 ((Aa t))) (fun r e u m h=>by rw [e];exact h) h))
theorem o4 (n:Nat) (d:List Au) (e c7:Int) (f:List (List Ad)) (g h j:Int) (a:List Int) {t:(Int×Int×List Int)⊕bD} (R:AV→Mem→Prop) (N0:St→Prop) (hR:∀r:bD,t=(.inr r)→∀u m,eE Ce 3 r.1 [Value.int .i64 r.2] u m→R u m) (hN0:∀y:Int×Int×List Int,t=(.inl y)→∀s':St,Bb KK 53 0 s' (X8 (Ai Au.E d) e AV.Bp c7 (Eu Ce 90000 y.2.2) y.1 (Ai (Ci Ad.E) f) g y.2.1 [(90000,some ⟨Az Ce y.2.2,3⟩)])→N0 s'):Qa n d e c7 f g h j a=some t→nQ (Ai Au.E d) e AV.Bp c7 (Eu Ce 90000 a) h (Ai (Ci Ad.E) f) g j [(90000,some ⟨Az Ce a,3⟩)] R N0:=by
 unfold Qa nQ
 refine As (fun _=> ?_) (fun _=> ?_)
 ·refine Aq fun k s=> ?_
  refine iq (AV.B6 [Ai Ad.E k] 0) (Bo (E:=(Ci Ad.E)) rfl s) ?_
  refine iq (Ai Ad.E k) rfl ?_
  refine Aq fun x v=> ?_
  refine imp (Av (Afu v)) ?_
  refine imp Ec ?_
  refine imp Jc ?_
  iterate 7 refine imp Ag ?_
  refine As (fun _=> ?_) (fun _=> ?_)
  ·exact fun hg=>hN0 _ (Option.some.inj hg).symm _ (Ax [(90000,90000)] rfl rfl rfl (Ah (An (E:=Au.E) _ false) (oR (oR (oR (Ah (Tx (E:=Ce) (id:=90000) (l':=a) rfl rfl) (oR (Ah (An (E:=(Ci Ad.E)) _ false) (oR (oR A2))))))))) (A0 (Ba (cs:=Az Ce a) (ty:=3) (Aj _) (show Ao _ 90000=_ from B8)) Ay))
  ·refine Aq fun b w=> ?_
   refine imp (Av (Amr w)) ?_
   refine imp Ag ?_
   refine As (fun _=> ?_) (fun _=> ?_)
   ·refine Aq fun c p=> ?_
    refine iq (AV.ptr 90000 (((b:Int).toNat)*1+0)) (oV (E:=Ce) rfl p) ?_
    refine iq (Aa c) (K0 (E:=Ce) (l:=a) (ty:=3) (o:=0) B8 (Cc p).2 rfl (by decide) rfl) ?_
    refine imp Ag ?_
    refine Aq fun z q=> ?_
    refine iq (AV.ptr 90000 (((b:Int).toNat)*1+0)) (oV (E:=Ce) rfl q) ?_
    refine imp (W6 (E:=Ce) (l:=a) (i:=((b:Int).toNat)) (o:=0) (y:=(IntKind.wrap .i64 (c+(1)))) (ty:=3) Bf Bf rfl B8 (Cc q).2 rfl (by decide) rfl) ?_
    exact fun hg=>hN0 _ (Option.some.inj hg).symm _ (Ax [(90000,90000)] rfl rfl rfl (Ah (An (E:=Au.E) _ false) (oR (oR (oR (Ah (Tx (E:=Ce) (id:=90000) (l':=(a.set ((b:Int).toNat) (IntKind.wrap .i64 (c+(1))))) (by first|rfl|omega|(simp;done)|(simp;omega)) rfl) (oR (Ah (An (E:=(Ci Ad.E)) _ false) (oR (oR A2))))))))) (A0 (Ba (cs:=Az Ce (a.set ((b:Int).toNat) (IntKind.wrap .i64 (c+(1))))) (ty:=3) (Aj _) (show Ao _ 90000=_ from B8)) Ay))
   ·exact fun hg=>hN0 _ (Option.some.inj hg).symm _ (Ax [(90000,90000)] rfl rfl rfl (Ah (An (E:=Au.E) _ false) (oR (oR (oR (Ah (Tx (E:=Ce) (id:=90000) (l':=a) rfl rfl) (oR (Ah (An (E:=(Ci Ad.E)) _ false) (oR (oR A2))))))))) (A0 (Ba (cs:=Az Ce a) (ty:=3) (Aj _) (show Ao _ 90000=_ from B8)) Ay))
 ·exact fun hg=>hR _ (Option.some.inj hg).symm _ _ ⟨_,rfl,fI (E:=Ce) (ty:=3) (l:=a) rfl B8⟩
theorem pU (n:Nat) (a:List Au) (b c7:Int) (c:List (List Ad)) (d:Int) {t:bD} (R:AV→Mem→Prop) (hR:∀r:bD,t=r→∀u m,eE Ce 3 r.1 [Value.int .i64 r.2] u m→R u m) (k:Nat) (x:Int×Int×List Int) (hx:A7 (fun y:Int×Int×List Int=>Qa n a b c7 c d y.1 y.2.1 y.2.2) k x=some t) {s:St} (hw:Bb KK 53 0 s (X8 (Ai Au.E a) b AV.Bp c7 (Eu Ce 90000 x.2.2) x.1 (Ai (Ci Ad.E) c) d x.2.1 [(90000,some ⟨Az Ce x.2.2,3⟩)])):Bu pg KK 53 0 (.loop oH) s (mP R):=
 Am5 R (σ:=Nat×(Int×Int×List Int)) (fun z=>A7 (fun y:Int×Int×List Int=>Qa n a b c7 c d y.1 y.2.1 y.2.2) z.1 z.2=some t) (fun z=>(Ai Au.E a)) (fun z=>b) (fun z=>AV.Bp) (fun z=>c7) (fun z=>(Eu Ce 90000 z.2.2.2)) (fun z=>z.2.1) (fun z=>(Ai (Ci Ad.E) c)) (fun z=>d) (fun z=>z.2.2.1) (fun z=>[(90000,some ⟨Az Ce z.2.2.2,3⟩)]) (fun z=>z.1) (by
  rintro ⟨k,y⟩ h
  cases k with
  |zero=>exact (Bi h).elim
  |succ k=>
   obtain ⟨u,f,g,i⟩:=Bh h
   exact o4 n a b c7 c d y.1 y.2.1 y.2.2 R _ (fun r e=>hR r (i _ e).symm) (fun y' e s' hw=>⟨(k,y'),g _ e,Nat.lt_succ_self k,hw⟩) f) (k,x) hx hw
theorem Acz (n:Nat) (b:List Au) (a:List (List Ad)) (d:Int) {t:bD} (R:AV→Mem→Prop) (hR:∀r:bD,t=r→∀u m,eE Ce 3 r.1 [Value.int .i64 r.2] u m→R u m):g42 n b a d=some t→F42 (Ai Au.E b) (Ai (Ci Ad.E) a) d R:=by
 unfold g42 F42
 refine iq (Aa (b.length:Int)) rfl ?_
 refine imp Ag ?_
 refine Aq fun c e=> ?_
 refine imp (Dm (show _=some ((Eu Ce 4 (List.replicate c (0))),[(4,some ⟨Az Ce (List.replicate c (0)),3⟩)]) from (Aj6 (E:=Ce) (z:=(0)) rfl rfl e))) ?_
 refine iq (Aa (a.length:Int)) rfl ?_
 refine imp Ag ?_
 exact fun hg=>pU n b d (0) a (a.length:Int) R hR n _ hg (Ax [(90000,4)] rfl rfl rfl (Ah (An (E:=Au.E) _ false) (oR (oR (oR (Ah (Tx (E:=Ce) (id:=4) (l':=(List.replicate c (0))) rfl rfl) (oR (Ah (An (E:=(Ci Ad.E)) _ false) (oR (oR A2))))))))) (A0 (Ba (cs:=Az Ce (List.replicate c (0))) (ty:=3) (Aj _) (show Ao _ 4=_ from B8)) Ay))
theorem Am9 {n k:Nat} {look:Nat→Option Bk} {a:List Au} {b:List (List Ad)} {c:Int} {t:bD} (h:g42 n a b c=some t):Gw pg KK.gl look k 42 [Ai Au.E a,Ai (Ci Ad.E) b,Aa c] (.Bn (B3 Ce k t.1::([Value.int .i64 t.2]:List Value).map AV.sc)) [(k,B9 Ce 3 t.1)]:=
 qV (by first|rfl|simp [Ap,clean,Aj,En.Cs]) (Agg (Ai Au.E a) (Ai (Ci Ad.E) b) c _ (Acz n a b c (eE Ce 3 t.1 [Value.int .i64 t.2]) (fun r e u m h=>by rw [e];exact h) h))
theorem Amf (n:Nat) (b:List Au) (c:List (List Ad)) (d:Int) {t:ρ5} (R:AV→Mem→Prop) (hR:∀r:ρ5,t=r→∀u m,B5 ((AV.Bn [Ai Ce r.1,Aa r.2.1,Aa r.2.2])) u m→R u m):g5 n b c d=some t→F5 (Ai Au.E b) (Ai (Ci Ad.E) c) d R:=by
 unfold g5 F5
 refine Aq fun g e=> ?_
 refine imp (Av (Ao3 e)) ?_
 refine imp Ag ?_
 refine As (fun _=> ?_) (fun _=> ?_)
 ·exact fun hg=>D7 rfl (hR _ (Option.some.inj hg).symm) (Di (Pj (E:=Ce) _) (fS (fS By)))
 ·refine As (fun _=> ?_) (fun _=> ?_)
  ·exact fun hg=>D7 rfl (hR _ (Option.some.inj hg).symm) (Di (Pj (E:=Ce) _) (fS (fS By)))
  ·refine As (fun _=> ?_) (fun _=> ?_)
   ·exact fun hg=>D7 rfl (hR _ (Option.some.inj hg).symm) (Di (Pj (E:=Ce) _) (fS (fS By)))
   ·refine Aq fun a f=> ?_
    refine imp (Z5 (show Gw _ _ _ _ _ _ (AV.Bn [B3 Ce 81 a.1,Aa a.2]) [(81,B9 Ce 3 a.1)] from Am9 f)) ?_
    refine imp Ec ?_
    refine imp Ag ?_
    exact fun hg=>D7 rfl (hR _ (Option.some.inj hg).symm) (Di (aX (E:=Ce) (ty:=3) (l':=a.1) _ rfl B8) (fS (fS By)))
theorem sg5 {n:Nat} {a:List Au} {b:List (List Ad)} {c:Int} {t:ρ5} (h:g5 n a b c=some t):Cj pg KK.gl 5 [Ai Au.E a,Ai (Ci Ad.E) b,Aa c] ((AV.Bn [Ai Ce t.1,Aa t.2.1,Aa t.2.2])):=
 A1 (by first|rfl|simp [Ap,clean,Aj,En.Cs]) (by first|rfl|simp [Ap,clean,Aj,En.Cs]) (Ajk (Ai Au.E a) (Ai (Ci Ad.E) b) c _ (Amf n a b c (B5 ((AV.Bn [Ai Ce t.1,Aa t.2.1,Aa t.2.2]))) (fun r e u m h=>by rw [e];exact h) h))
theorem All (n:Nat) (a b:Int) {t:ρ7} (R:AV→Mem→Prop) (hR:∀r:ρ7,t=r→∀u m,B5 ((Aa r)) u m→R u m):g7 n a b=some t→F7 a b R:=by
 unfold g7 F7
 refine iq (AV.sc (.int .u64 (IntKind.wrap .u64 a))) Bf ?_
 refine imp Lw ?_
 refine iq (AV.sc (.int .u64 (IntKind.wrap .u64 b))) Bf ?_
 refine imp Lw ?_
 refine Aq fun c d=> ?_
 refine iq (AV.sc (.int .u64 c)) (La d) ?_
 refine imp Lw ?_
 refine iq (Aa (IntKind.wrap .i64 c)) Bf ?_
 refine imp Ag ?_
 exact Ct hR rfl rfl
theorem sg7 {n:Nat} {a:Int} {b:Int} {t:ρ7} (h:g7 n a b=some t):Cj pg KK.gl 7 [Aa a,Aa b] ((Aa t)):=
 A1 (by first|rfl|simp [Ap,clean,Aj,En.Cs]) (by first|rfl|simp [Ap,clean,Aj,En.Cs]) (Ajp a b _ (All n a b (B5 ((Aa t))) (fun r e u m h=>by rw [e];exact h) h))
theorem Aki (n:Nat) (a:Ab) (b:ByteArray) {t:Agl} (R:AV→Mem→Prop) (hR:∀r:Agl,t=r→∀u m,B5 ((Ae r)) u m→R u m):g53 n a b=some t→F53 a.Position (Ai Aw a.Ak) (AV.B6 [Bq b] 0) R:=by
 unfold g53 F53
 refine imp (Dd rfl) ?_
 refine iq (Bq b) rfl ?_
 refine imp C1 ?_
 exact Ct hR rfl rfl
theorem Ao0 {n:Nat} {a:Ab} {b:ByteArray} {t:Agl} (h:g53 n a b=some t):Cj pg KK.gl 53 [AV.agg [Bq a.Position,Ai Aw a.Ak],AV.B6 [Bq b] 0] ((Ae t)):=
 A1 (by first|rfl|simp [Ap,clean,Aj,En.Cs]) (by first|rfl|simp [Ap,clean,Aj,En.Cs]) (Adz a.Position (Ai Aw a.Ak) (AV.B6 [Bq b] 0) _ (Aki n a b (B5 ((Ae t))) (fun r e u m h=>by rw [e];exact h) h))
theorem aO (n:Nat) (b:List Ab) (c:ByteArray) (d c7 e:Int) {t:(Int)⊕G3} (R:AV→Mem→Prop) (N0:St→Prop) (hR:∀r:G3,t=(.inr r)→∀u m,B5 ((Aa r)) u m→R u m) (hN0:∀y:Int,t=(.inl y)→∀s':St,Bb KK 19 0 s' (Lx (Ai Ab.E b) (AV.fn 53 [AV.B6 [Bq c] 0]) d c7 y [])→N0 s'):Fe n b c d c7 e=some t→Rr (Ai Ab.E b) (AV.fn 53 [AV.B6 [Bq c] 0]) d c7 e [] R N0:=by
 unfold Fe Rr
 refine As (fun _=> ?_) (fun _=> ?_)
 ·refine Aq fun a f=> ?_
  refine iq (AV.B6 [Bq a.Position,Ai Aw a.Ak] 0) (Bo (E:=Ab.E) rfl f) ?_
  refine iq (AV.agg [Bq a.Position,Ai Aw a.Ak]) rfl ?_
  refine imp Bw ?_
  refine imp C1 ?_
  refine Aq fun h g=> ?_
  refine imp Iy ?_
  refine imp (Q3 rfl) ?_
  refine imp (Gh (Ao0 g)) ?_
  refine imp Dn ?_
  refine As (fun _=> ?_) (fun _=> ?_)
  ·exact Ct hR rfl rfl
  ·exact fun hg=>hN0 _ (Option.some.inj hg).symm _ (Ax [] rfl rfl rfl (Ah (An (E:=Ab.E) _ false) (Ah (E0 (Fb _) (by simp [clean,Ap,Aj])) (oR (oR (oR A2))))) Ay)
 ·exact Ct hR rfl rfl
theorem Zo (n:Nat) (a:List Ab) (b:ByteArray) (c c7:Int) {t:G3} (R:AV→Mem→Prop) (hR:∀r:G3,t=r→∀u m,B5 ((Aa r)) u m→R u m) (k:Nat) (x:Int) (hx:A7 (fun y:Int=>Fe n a b c c7 y) k x=some t) {s:St} (hw:Bb KK 19 0 s (Lx (Ai Ab.E a) (AV.fn 53 [AV.B6 [Bq b] 0]) c c7 x [])):Bu pg KK 19 0 (.loop Uu) s (Ul R):=
 zH R (σ:=Nat×(Int)) (fun z=>A7 (fun y:Int=>Fe n a b c c7 y) z.1 z.2=some t) (fun z=>(Ai Ab.E a)) (fun z=>(AV.fn 53 [AV.B6 [Bq b] 0])) (fun z=>c) (fun z=>c7) (fun z=>z.2) (fun z=>[]) (fun z=>z.1) (by
  rintro ⟨k,y⟩ h
  cases k with
  |zero=>exact (Bi h).elim
  |succ k=>
   obtain ⟨u,d,f,g⟩:=Bh h
   exact aO n a b c c7 y R _ (fun r e=>hR r (g _ e).symm) (fun y' e s' hw=>⟨(k,y'),f _ e,Nat.lt_succ_self k,hw⟩) d) (k,x) hx hw
theorem pE (n:Nat) (a:List Ab) (b:ByteArray) {t:G3} (R:AV→Mem→Prop) (hR:∀r:G3,t=r→∀u m,B5 ((Aa r)) u m→R u m):T4 n a b=some t→tT (Ai Ab.E a) (AV.fn 53 [AV.B6 [Bq b] 0]) R:=by
 unfold T4 tT
 refine iq (Aa (a.length:Int)) rfl ?_
 refine imp Ag ?_
 exact fun hg=>Zo n a b (0) (a.length:Int) R hR n _ hg (Ax [] rfl rfl rfl (Ah (An (E:=Ab.E) _ false) (Ah (E0 (Fb _) (by simp [clean,Ap,Aj])) (oR (oR (oR A2))))) Ay)
theorem Afx {n:Nat} {a:List Ab} {b:ByteArray} {t:G3} (h:T4 n a b=some t):Cj pg KK.gl 124 [Ai Ab.E a,AV.fn 53 [AV.B6 [Bq b] 0]] ((Aa t)):=
 A1 (by first|rfl|simp [Ap,clean,Aj,En.Cs]) (by first|rfl|simp [Ap,clean,Aj,En.Cs]) (gC (Ai Ab.E a) (AV.fn 53 [AV.B6 [Bq b] 0]) _ (pE n a b (B5 ((Aa t))) (fun r e u m h=>by rw [e];exact h) h))
theorem Aku (n:Nat) (a:List Ab) (b:ByteArray) {t:Adw} (R:AV→Mem→Prop) (hR:∀r:Adw,t=r→∀u m,B5 ((Ae r)) u m→R u m):g52 n a b=some t→F52 (Ai Ab.E a) (AV.fn 53 [AV.B6 [Bq b] 0]) R:=by
 unfold g52 F52
 refine Aq fun d c=> ?_
 refine imp (Av (Afx c)) ?_
 refine imp Ag ?_
 exact Ct hR rfl rfl
theorem Ao2 {n:Nat} {a:List Ab} {b:ByteArray} {t:Adw} (h:g52 n a b=some t):Cj pg KK.gl 52 [Ai Ab.E a,AV.fn 53 [AV.B6 [Bq b] 0]] ((Ae t)):=
 A1 (by first|rfl|simp [Ap,clean,Aj,En.Cs]) (by first|rfl|simp [Ap,clean,Aj,En.Cs]) (Afn (Ai Ab.E a) (AV.fn 53 [AV.B6 [Bq b] 0]) _ (Aku n a b (B5 ((Ae t))) (fun r e u m h=>by rw [e];exact h) h))
theorem vR (n:Nat) (b:List Ab) (a:List ByteArray) (c:ByteArray) (d f:Int) {t:(Int)⊕Z3} (R:AV→Mem→Prop) (N0:St→Prop) (hR:∀r:Z3,t=(.inr r)→∀u m,B5 ((Bq r)) u m→R u m) (hN0:∀y:Int,t=(.inl y)→∀s':St,Bb KK 22 0 s' (Xv (Ai Ab.E b) (Ai Aw a) c (Ai Aw a) d y [])→N0 s'):Nn n b a c d f=some t→mI (Ai Ab.E b) (Ai Aw a) c (Ai Aw a) d f [] R N0:=by
 unfold Nn mI
 refine As (fun _=> ?_) (fun _=> ?_)
 ·refine Aq fun e h=> ?_
  refine iq (AV.B6 [Bq e] 0) (Bo (E:=Aw) rfl h) ?_
  refine iq (Bq e) rfl ?_
  refine imp C1 ?_
  refine Aq fun k i=> ?_
  refine imp (E3 (E9 (Ca (Ob (E:=Ab.E) _ _ false) (Ca (mT _ _ (Ca (Ur _ (ty:=9) (us:=[Bq e]) B8 (Ca (Li _ _) D1)) D1)) D1)) (Ao2 i) rfl)) ?_
  refine imp Dn ?_
  refine As (fun _=> ?_) (fun _=> ?_)
  ·exact Ct hR rfl rfl
  ·exact fun hg=>hN0 _ (Option.some.inj hg).symm _ (Ax [] rfl rfl rfl (Ah (An (E:=Ab.E) _ false) (Ah (An (E:=Aw) _ false) (oR (Ah (An (E:=Aw) _ false) (oR (oR A2)))))) Ay)
 ·refine Aq fun g j=> ?_
  refine iq (AV.B6 [Bq g] 0) (Bo (E:=Aw) rfl j) ?_
  refine iq (Bq g) rfl ?_
  refine imp C1 ?_
  exact Ct hR rfl rfl
theorem vK (n:Nat) (b:List Ab) (a:List ByteArray) (c:ByteArray) (d:Int) {t:Z3} (R:AV→Mem→Prop) (hR:∀r:Z3,t=r→∀u m,B5 ((Bq r)) u m→R u m) (k:Nat) (x:Int) (hx:A7 (fun y:Int=>Nn n b a c d y) k x=some t) {s:St} (hw:Bb KK 22 0 s (Xv (Ai Ab.E b) (Ai Aw a) c (Ai Aw a) d x [])):Bu pg KK 22 0 (.loop Bm) s (oD R):=
 Al9 R (σ:=Nat×(Int)) (fun z=>A7 (fun y:Int=>Nn n b a c d y) z.1 z.2=some t) (fun z=>(Ai Ab.E b)) (fun z=>(Ai Aw a)) (fun z=>c) (fun z=>(Ai Aw a)) (fun z=>d) (fun z=>z.2) (fun z=>[]) (fun z=>z.1) (by
  rintro ⟨k,y⟩ h
  cases k with
  |zero=>exact (Bi h).elim
  |succ k=>
   obtain ⟨u,f,g,i⟩:=Bh h
   exact vR n b a c d y R _ (fun r e=>hR r (i _ e).symm) (fun y' e s' hw=>⟨(k,y'),g _ e,Nat.lt_succ_self k,hw⟩) f) (k,x) hx hw
theorem Ain (n:Nat) (b:List Ab) (a:List ByteArray) {t:Z3} (R:AV→Mem→Prop) (hR:∀r:Z3,t=r→∀u m,B5 ((Bq r)) u m→R u m):g10 n b a=some t→F10 (Ai Ab.E b) (Ai Aw a) R:=by
 unfold g10 F10
 refine iq (Aa (a.length:Int)) rfl ?_
 refine imp Ag ?_
 exact fun hg=>vK n b a (⟨#[]⟩:ByteArray) (a.length:Int) R hR n _ hg (Ax [] rfl rfl rfl (Ah (An (E:=Ab.E) _ false) (Ah (An (E:=Aw) _ false) (oR (Ah (An (E:=Aw) _ false) (oR (oR A2)))))) Ay)
theorem Aoz {n:Nat} {a:List Ab} {b:List ByteArray} {t:Z3} (h:g10 n a b=some t):Cj pg KK.gl 10 [Ai Ab.E a,Ai Aw b] ((Bq t)):=
 A1 (by first|rfl|simp [Ap,clean,Aj,En.Cs]) (by first|rfl|simp [Ap,clean,Aj,En.Cs]) (Afh (Ai Ab.E a) (Ai Aw b) _ (Ain n a b (B5 ((Bq t))) (fun r e u m h=>by rw [e];exact h) h))
theorem Aap (n:Nat) (b c:ByteArray) (d:List Ab) (e f:Int) {t:(Int)⊕Y0} (R:AV→Mem→Prop) (N0:St→Prop) (hR:∀r:Y0,t=(.inr r)→∀u m,B5 ((Bq r)) u m→R u m) (hN0:∀y:Int,t=(.inl y)→∀s':St,Bb KK 20 0 s' (Xp b c (Ai Ab.E d) e y [])→N0 s'):No n b c d e f=some t→lB b c (Ai Ab.E d) e f [] R N0:=by
 unfold No lB
 refine As (fun _=> ?_) (fun _=> ?_)
 ·refine Aq fun a g=> ?_
  refine iq (AV.B6 [Bq a.Position,Ai Aw a.Ak] 0) (Bo (E:=Ab.E) rfl g) ?_
  refine iq (AV.agg [Bq a.Position,Ai Aw a.Ak]) rfl ?_
  refine imp Bw ?_
  refine imp C1 ?_
  refine imp (Dd rfl) ?_
  refine Aq fun i h=> ?_
  refine imp (Av (Anv h)) ?_
  refine imp Dn ?_
  refine As (fun _=> ?_) (fun _=> ?_)
  ·exact Ct hR rfl rfl
  ·exact fun hg=>hN0 _ (Option.some.inj hg).symm _ (Ax [] rfl rfl rfl (oR (oR (Ah (An (E:=Ab.E) _ false) (oR (oR A2))))) Ay)
 ·exact Ct hR rfl rfl
theorem zZ (n:Nat) (a b:ByteArray) (c:List Ab) (d:Int) {t:Y0} (R:AV→Mem→Prop) (hR:∀r:Y0,t=r→∀u m,B5 ((Bq r)) u m→R u m) (k:Nat) (x:Int) (hx:A7 (fun y:Int=>No n a b c d y) k x=some t) {s:St} (hw:Bb KK 20 0 s (Xp a b (Ai Ab.E c) d x [])):Bu pg KK 20 0 (.loop kZ) s (kV R):=
 Alw R (σ:=Nat×(Int)) (fun z=>A7 (fun y:Int=>No n a b c d y) z.1 z.2=some t) (fun z=>a) (fun z=>b) (fun z=>(Ai Ab.E c)) (fun z=>d) (fun z=>z.2) (fun z=>[]) (fun z=>z.1) (by
  rintro ⟨k,y⟩ h
  cases k with
  |zero=>exact (Bi h).elim
  |succ k=>
   obtain ⟨u,f,g,i⟩:=Bh h
   exact Aap n a b c d y R _ (fun r e=>hR r (i _ e).symm) (fun y' e s' hw=>⟨(k,y'),g _ e,Nat.lt_succ_self k,hw⟩) f) (k,x) hx hw
theorem Aja (n:Nat) (a:List Ab) (b:ByteArray) {t:Y0} (R:AV→Mem→Prop) (hR:∀r:Y0,t=r→∀u m,B5 ((Bq r)) u m→R u m):g54 n a b=some t→F54 (Ai Ab.E a) b R:=by
 unfold g54 F54
 refine iq (Aa (a.length:Int)) rfl ?_
 refine imp Ag ?_
 exact fun hg=>zZ n b (⟨#[]⟩:ByteArray) a (a.length:Int) R hR n _ hg (Ax [] rfl rfl rfl (oR (oR (Ah (An (E:=Ab.E) _ false) (oR (oR A2))))) Ay)
theorem Apa {n:Nat} {a:List Ab} {b:ByteArray} {t:Y0} (h:g54 n a b=some t):Cj pg KK.gl 54 [Ai Ab.E a,Bq b] ((Bq t)):=
 A1 (by first|rfl|simp [Ap,clean,Aj,En.Cs]) (by first|rfl|simp [Ap,clean,Aj,En.Cs]) (Aee (Ai Ab.E a) b _ (Aja n a b (B5 ((Bq t))) (fun r e u m h=>by rw [e];exact h) h))
theorem Ajj (n:Nat) (a:List Ab) (b:ByteArray) {t:Agy} (R:AV→Mem→Prop) (hR:∀r:Agy,t=r→∀u m,B5 ((AV.Bn [Bq r.1,Aa r.2])) u m→R u m):g12 n a b=some t→F12 (Ai Ab.E a) b R:=by
 unfold g12 F12
 refine Aq fun e c=> ?_
 refine imp (Av (Adt c)) ?_
 refine imp Ag ?_
 refine As (fun _=> ?_) (fun _=> ?_)
 ·exact fun hg=>D7 rfl (hR _ (Option.some.inj hg).symm) (fS (fS By))
 ·refine Aq fun f d=> ?_
  refine imp (Av (Apa d)) ?_
  refine imp C1 ?_
  refine As (fun _=> ?_) (fun _=> ?_)
  ·exact fun hg=>D7 rfl (hR _ (Option.some.inj hg).symm) (fS (fS By))
  ·exact fun hg=>D7 rfl (hR _ (Option.some.inj hg).symm) (fS (fS By))
theorem Apd {n:Nat} {a:List Ab} {b:ByteArray} {t:Agy} (h:g12 n a b=some t):Cj pg KK.gl 12 [Ai Ab.E a,Bq b] ((AV.Bn [Bq t.1,Aa t.2])):=
 A1 (by first|rfl|simp [Ap,clean,Aj,En.Cs]) (by first|rfl|simp [Ap,clean,Aj,En.Cs]) (Abu (Ai Ab.E a) b _ (Ajj n a b (B5 ((AV.Bn [Bq t.1,Aa t.2]))) (fun r e u m h=>by rw [e];exact h) h))
theorem yL (n:Nat) (a b:List ByteArray) (c:Bool) (Hu d:Int) {t:(Int)⊕Zs} (R:AV→Mem→Prop) (N0:St→Prop) (hR:∀r:Zs,t=(.inr r)→∀u m,B5 ((Ae r)) u m→R u m) (hN0:∀y:Int,t=(.inl y)→∀s':St,Bb KK 26 0 s' (Xx (Ai Aw a) (Ai Aw b) c Hu y [])→N0 s'):Nx n a b c Hu d=some t→mZ (Ai Aw a) (Ai Aw b) c Hu d [] R N0:=by
 unfold Nx mZ
 refine As (fun _=> ?_) (fun _=> ?_)
 ·refine Aq fun e g=> ?_
  refine iq (AV.B6 [Bq e] 0) (Bo (E:=Aw) rfl g) ?_
  refine iq (Bq e) rfl ?_
  refine imp C1 ?_
  refine Aq fun f h=> ?_
  refine iq (AV.B6 [Bq f] 0) (Bo (E:=Aw) rfl h) ?_
  refine iq (Bq f) rfl ?_
  refine imp C1 ?_
  refine As (fun _=> ?_) (fun _=> ?_)
  ·exact Ct hR rfl rfl
  ·exact fun hg=>hN0 _ (Option.some.inj hg).symm _ (Ax [] rfl rfl rfl (Ah (An (E:=Aw) _ false) (Ah (An (E:=Aw) _ false) (oR (oR (oR A2))))) Ay)
 ·exact Ct hR rfl rfl
theorem yM (n:Nat) (a b:List ByteArray) (c:Bool) (Hu:Int) {t:Zs} (R:AV→Mem→Prop) (hR:∀r:Zs,t=r→∀u m,B5 ((Ae r)) u m→R u m) (k:Nat) (x:Int) (hx:A7 (fun y:Int=>Nx n a b c Hu y) k x=some t) {s:St} (hw:Bb KK 26 0 s (Xx (Ai Aw a) (Ai Aw b) c Hu x [])):Bu pg KK 26 0 (.loop nA) s (lK R):=
 Al2 R (σ:=Nat×(Int)) (fun z=>A7 (fun y:Int=>Nx n a b c Hu y) z.1 z.2=some t) (fun z=>(Ai Aw a)) (fun z=>(Ai Aw b)) (fun z=>c) (fun z=>Hu) (fun z=>z.2) (fun z=>[]) (fun z=>z.1) (by
  rintro ⟨k,y⟩ h
  cases k with
  |zero=>exact (Bi h).elim
  |succ k=>
   obtain ⟨u,d,f,g⟩:=Bh h
   exact yL n a b c Hu y R _ (fun r e=>hR r (g _ e).symm) (fun y' e s' hw=>⟨(k,y'),f _ e,Nat.lt_succ_self k,hw⟩) d) (k,x) hx hw
theorem Aiy (n:Nat) (a b:List ByteArray) {t:Zs} (R:AV→Mem→Prop) (hR:∀r:Zs,t=r→∀u m,B5 ((Ae r)) u m→R u m):g16 n a b=some t→F16 (Ai Aw a) (Ai Aw b) R:=by
 unfold g16 F16
 refine iq (Aa (a.length:Int)) rfl ?_
 refine imp Ag ?_
 refine iq (Aa (b.length:Int)) rfl ?_
 refine imp Ag ?_
 refine As (fun _=> ?_) (fun _=> ?_)
 ·exact Ct hR rfl rfl
 ·refine iq (Aa (a.length:Int)) rfl ?_
  refine imp Ag ?_
  exact fun hg=>yM n a b false (a.length:Int) R hR n _ hg (Ax [] rfl rfl rfl (Ah (An (E:=Aw) _ false) (Ah (An (E:=Aw) _ false) (oR (oR (oR A2))))) Ay)
theorem Aph {n:Nat} {a:List ByteArray} {b:List ByteArray} {t:Zs} (h:g16 n a b=some t):Cj pg KK.gl 16 [Ai Aw a,Ai Aw b] ((Ae t)):=
 A1 (by first|rfl|simp [Ap,clean,Aj,En.Cs]) (by first|rfl|simp [Ap,clean,Aj,En.Cs]) (Agk (Ai Aw a) (Ai Aw b) _ (Aiy n a b (B5 ((Ae t))) (fun r e u m h=>by rw [e];exact h) h))
end Go.Proofs.YtmechmjjcgdpdaaGreatDoor
