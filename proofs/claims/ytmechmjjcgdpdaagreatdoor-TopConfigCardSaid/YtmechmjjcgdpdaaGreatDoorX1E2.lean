/- A part. -/
import Derived.Test.YtmechmjjcgdpdaaGreatDoorX1E1
set_option linter.unusedVariables false
set_option linter.unusedSimpArgs false
set_option maxRecDepth 100000
set_option maxHeartbeats 4000000
namespace Go.Proofs.YtmechmjjcgdpdaaGreatDoor
theorem Abp (n:Nat) (a b:TP) {t:lP} (R:AV→Mem→Prop) (hR:∀r:lP,t=r→∀u m,B5 ((AV.agg (TP.E.enc r))) u m→R u m):Z2 n a b=some t→Ae0 a.X a.Y b.X b.Y R:=by
 unfold Z2 Ae0
 refine iq (AV.agg [Aa (IntKind.wrap .i64 (a.X-b.X)),Aa (IntKind.wrap .i64 (a.Y-b.Y))]) rfl ?_
 refine imp (Bz (sz:=2) Bf Bf rfl rfl (cs:=[Aa (0),Aa (0)]) (cs':=[Aa (IntKind.wrap .i64 (a.X-b.X)),Aa (IntKind.wrap .i64 (a.Y-b.Y))]) (ty:=51) B8 rfl rfl) ?_
 exact fun hg=>gI (hR _ (Option.some.inj hg).symm) (Im (E:=TP.E) _ (⟨IntKind.wrap .i64 (a.X-b.X),IntKind.wrap .i64 (a.Y-b.Y)⟩:TP))
theorem eJ {n:Nat} {a:TP} {b:TP} {t:lP} (h:Z2 n a b=some t):Cj pg KK.gl 249 [AV.agg [Aa a.X,Aa a.Y],AV.agg [Aa b.X,Aa b.Y]] ((AV.agg (TP.E.enc t))):=
 A1 (by first|rfl|simp [Ap,clean,Aj,En.Cs]) (by first|rfl|simp [Ap,clean,Aj,En.Cs]) (zG a.X a.Y b.X b.Y _ (Abp n a b (B5 ((AV.agg (TP.E.enc t)))) (fun r e u m h=>by rw [e];exact h) h))
theorem Abq (n:Nat) (a b:TP) {t:nU} (R:AV→Mem→Prop) (hR:∀r:nU,t=r→∀u m,B5 ((Aa r)) u m→R u m):iQ n a b=some t→Af9 a.X a.Y b.X b.Y R:=by
 unfold iQ Af9
 exact Ct hR rfl rfl
theorem Ah1 {n:Nat} {a:TP} {b:TP} {t:nU} (h:iQ n a b=some t):Cj pg KK.gl 328 [AV.agg [Aa a.X,Aa a.Y],AV.agg [Aa b.X,Aa b.Y]] ((Aa t)):=
 A1 (by first|rfl|simp [Ap,clean,Aj,En.Cs]) (by first|rfl|simp [Ap,clean,Aj,En.Cs]) (uF a.X a.Y b.X b.Y _ (Abq n a b (B5 ((Aa t))) (fun r e u m h=>by rw [e];exact h) h))
theorem Aes (n:Nat) (a b:TP) {t:nS} (R:AV→Mem→Prop) (hR:∀r:nS,t=r→∀u m,B5 ((Aa r)) u m→R u m):dM n a b=some t→Aed a.X a.Y b.X b.Y R:=by
 unfold dM Aed
 refine Aq fun e c=> ?_
 refine imp (Av (eJ c)) ?_
 refine imp Bw ?_
 iterate 2 refine imp Ag ?_
 refine Aq fun f d=> ?_
 refine imp (Av (Ah1 d)) ?_
 refine imp Ag ?_
 exact Ct hR rfl rfl
theorem Aai {n:Nat} {a:TP} {b:TP} {t:nS} (h:dM n a b=some t):Cj pg KK.gl 280 [AV.agg [Aa a.X,Aa a.Y],AV.agg [Aa b.X,Aa b.Y]] ((Aa t)):=
 A1 (by first|rfl|simp [Ap,clean,Aj,En.Cs]) (by first|rfl|simp [Ap,clean,Aj,En.Cs]) (xX a.X a.Y b.X b.Y _ (Aes n a b (B5 ((Aa t))) (fun r e u m h=>by rw [e];exact h) h))
theorem o6 (n:Nat) (a b c d:Int) {t:(Int×Int)⊕O8} (R:AV→Mem→Prop) (N0:St→Prop) (hR:∀r:O8,t=(.inr r)→∀u m,B5 ((Aa r)) u m→R u m) (hN0:∀y:Int×Int,t=(.inl y)→∀s':St,Bb KK 27 0 s' (R4 a b y.1 y.2 [])→N0 s'):Vp n a b c d=some t→Yn a b c d [] R N0:=by
 unfold Vp Yn
 refine As (fun _=> ?_) (fun _=> ?_)
 ·refine As (fun _=> ?_) (fun _=> ?_)
  ·exact fun hg=>hN0 _ (Option.some.inj hg).symm _ (Ax [] rfl rfl rfl (oR (oR (oR (oR A2)))) Ay)
  ·exact fun hg=>hN0 _ (Option.some.inj hg).symm _ (Ax [] rfl rfl rfl (oR (oR (oR (oR A2)))) Ay)
 ·exact Ct hR rfl rfl
theorem rR (n:Nat) (a b:Int) {t:O8} (R:AV→Mem→Prop) (hR:∀r:O8,t=r→∀u m,B5 ((Aa r)) u m→R u m) (k:Nat) (x:Int×Int) (hx:A7 (fun y:Int×Int=>Vp n a b y.1 y.2) k x=some t) {s:St} (hw:Bb KK 27 0 s (R4 a b x.1 x.2 [])):Bu pg KK 27 0 (.loop bU) s (Z6 R):=
 Aju R (σ:=Nat×(Int×Int)) (fun z=>A7 (fun y:Int×Int=>Vp n a b y.1 y.2) z.1 z.2=some t) (fun z=>a) (fun z=>b) (fun z=>z.2.1) (fun z=>z.2.2) (fun z=>[]) (fun z=>z.1) (by
  rintro ⟨k,y⟩ h
  cases k with
  |zero=>exact (Bi h).elim
  |succ k=>
   obtain ⟨u,c,d,f⟩:=Bh h
   exact o6 n a b y.1 y.2 R _ (fun r e=>hR r (f _ e).symm) (fun y' e s' hw=>⟨(k,y'),d _ e,Nat.lt_succ_self k,hw⟩) c) (k,x) hx hw
theorem Acy (n:Nat) (a:Int) {t:O8} (R:AV→Mem→Prop) (hR:∀r:O8,t=r→∀u m,B5 ((Aa r)) u m→R u m):Agn n a=some t→Ac1 a R:=by
 unfold Agn Ac1
 refine As (fun _=> ?_) (fun _=> ?_)
 ·exact Ct hR rfl rfl
 ·exact fun hg=>rR n a (0) R hR n _ hg (Ax [] rfl rfl rfl (oR (oR (oR (oR A2)))) Ay)
theorem Amk {n:Nat} {a:Int} {t:O8} (h:Agn n a=some t):Cj pg KK.gl 281 [Aa a] ((Aa t)):=
 A1 (by first|rfl|simp [Ap,clean,Aj,En.Cs]) (by first|rfl|simp [Ap,clean,Aj,En.Cs]) (Aa5 a _ (Acy n a (B5 ((Aa t))) (fun r e u m h=>by rw [e];exact h) h))
theorem Aeu (n:Nat) (a b:TP) {t:mU} (R:AV→Mem→Prop) (hR:∀r:mU,t=r→∀u m,B5 ((AV.Bn [Aa r.1,Aa r.2])) u m→R u m):Aeh n a b=some t→Afy a.X a.Y b.X b.Y R:=by
 unfold Aeh Afy
 refine Aq fun e c=> ?_
 refine imp (Av (Aai c)) ?_
 refine imp Ag ?_
 refine Aq fun f d=> ?_
 refine imp (Av (Amk d)) ?_
 refine imp Ag ?_
 refine As (fun _=> ?_) (fun _=> ?_)
 ·exact fun hg=>D7 rfl (hR _ (Option.some.inj hg).symm) (fS (fS By))
 ·exact fun hg=>D7 rfl (hR _ (Option.some.inj hg).symm) (fS (fS By))
theorem An5 {n:Nat} {a:TP} {b:TP} {t:mU} (h:Aeh n a b=some t):Cj pg KK.gl 222 [AV.agg [Aa a.X,Aa a.Y],AV.agg [Aa b.X,Aa b.Y]] ((AV.Bn [Aa t.1,Aa t.2])):=
 A1 (by first|rfl|simp [Ap,clean,Aj,En.Cs]) (by first|rfl|simp [Ap,clean,Aj,En.Cs]) (Aad a.X a.Y b.X b.Y _ (Aeu n a b (B5 ((AV.Bn [Aa t.1,Aa t.2]))) (fun r e u m h=>by rw [e];exact h) h))
theorem Ads (n:Nat) (a b:Ad) (c:H6) {t:kN} (R:AV→Mem→Prop) (hR:∀r:kN,t=r→∀u m,B5 ((Ae r)) u m→R u m):Afw n a b c=some t→Adq a.Am a.A5 a.A6 a.Ar a.Bl a.Co b.Am b.A5 b.A6 b.Ar b.Bl b.Co c.C6 c.Cp R:=by
 unfold Afw Adq
 refine Aq fun e d=> ?_
 refine imp (Av (An5 d)) ?_
 refine imp Ec ?_
 iterate 2 refine imp Ag ?_
 refine As (fun _=> ?_) (fun _=> ?_)
 ·exact Ct hR rfl rfl
 ·refine iq (Aa (if (IntKind.wrap .i64 (b.Ar-a.Ar))>(IntKind.wrap .i64 (a.Ar-b.Ar)) then (IntKind.wrap .i64 (b.Ar-a.Ar)) else (IntKind.wrap .i64 (a.Ar-b.Ar)))) Bf ?_
  refine imp Ag ?_
  exact Ct hR rfl rfl
theorem Ana {n:Nat} {a:Ad} {b:Ad} {c:H6} {t:kN} (h:Afw n a b c=some t):Cj pg KK.gl 224 [AV.agg [Aa a.Am,Aa a.A5,Aa a.A6,Aa a.Ar,Aa a.Bl,Aa a.Co],AV.agg [Aa b.Am,Aa b.A5,Aa b.A6,Aa b.Ar,Aa b.Bl,Aa b.Co],AV.agg [Aa c.C6,Aa c.Cp]] ((Ae t)):=
 A1 (by first|rfl|simp [Ap,clean,Aj,En.Cs]) (by first|rfl|simp [Ap,clean,Aj,En.Cs]) (zR a.Am a.A5 a.A6 a.Ar a.Bl a.Co b.Am b.A5 b.A6 b.Ar b.Bl b.Co c.C6 c.Cp _ (Ads n a b c (B5 ((Ae t))) (fun r e u m h=>by rw [e];exact h) h))
theorem p8 (n:Nat) (e f:List Ad) (g c d a:Int) (b:List Br) {t:(Int×List Br)⊕Qw} (R:AV→Mem→Prop) (N0:St→Prop) (hR:∀r:Qw,t=(.inr r)→∀u m,B5 ((Ai Br.E r)) u m→R u m) (hN0:∀y:Int×List Br,t=(.inl y)→∀s':St,Bb KK 73 0 s' (Rf (Ai Ad.E e) (Ai Ad.E f) AV.Bp (B3 Br.E 90000 y.2) g y.1 c d [(90000,B9 Br.E 100 y.2)])→N0 s'):Uw n e f g c d a b=some t→Zl (Ai Ad.E e) (Ai Ad.E f) AV.Bp (B3 Br.E 90000 b) g a c d [(90000,B9 Br.E 100 b)] R N0:=by
 unfold Uw Zl
 refine As (fun _=> ?_) (fun _=> ?_)
 ·refine Aq fun z p=> ?_
  refine imp (Av (Afu p)) ?_
  refine imp Ec ?_
  refine imp Jc ?_
  iterate 7 refine imp Ag ?_
  refine Aq fun aa q=> ?_
  refine imp (Av (Afu q)) ?_
  refine imp Ec ?_
  refine imp Jc ?_
  iterate 7 refine imp Ag ?_
  refine Aq fun ab s=> ?_
  refine imp (Av (Ana s)) ?_
  refine imp Dn ?_
  refine As (fun _=> ?_) (fun _=> ?_)
  ·exact fun hg=>hN0 _ (Option.some.inj hg).symm _ (Ax [(90000,90000),(0,0)] rfl rfl rfl (Ah (An (E:=Ad.E) _ false) (Ah (An (E:=Ad.E) _ false) (oR (oR (Ah (Cl (E:=Br.E) (id:=90000) (l':=b) rfl rfl) (oR (oR A2))))))) (A0 (Ba (cs:=[Aa c,Aa d]) (ty:=92) rfl (show Ao _ 0=_ from B8)) (A0 (Cg (E:=Br.E) (ty:=100) (l':=b) rfl (show Ao _ 90000=_ from B8)) Ay)))
  ·refine imp (Ds (show _=some ((Aa (b.length:Int)),[]) from Qx)) ?_
   refine imp Ag ?_
   refine As (fun _=> ?_) (fun _=> ?_)
   ·refine Aq fun v h=> ?_
    refine iq (AV.ptr 90000 ((((IntKind.wrap .i64 ((b.length:Int)-(1))):Int).toNat)*2+0)) (Jr (E:=Br.E) rfl h) ?_
    refine iq (AV.ptr 90000 ((((IntKind.wrap .i64 ((b.length:Int)-(1))):Int).toNat)*2+1)) rfl ?_
    refine iq (Aa v.To) (K0 (E:=Br.E) (l:=b) (ty:=100) (o:=1) (Hs (ty:=100) B8 (Cc h).2) (Cc h).2 rfl (by decide) rfl) ?_
    refine imp Ag ?_
    refine As (fun _=> ?_) (fun _=> ?_)
    ·refine Aq fun j k=> ?_
     refine iq (AV.ptr 90000 ((((IntKind.wrap .i64 ((b.length:Int)-(1))):Int).toNat)*2+0)) (Jr (E:=Br.E) rfl k) ?_
     refine iq (AV.ptr 90000 ((((IntKind.wrap .i64 ((b.length:Int)-(1))):Int).toNat)*2+1)) rfl ?_
     refine imp (jS (E:=Br.E) (l:=b) (i:=(((IntKind.wrap .i64 ((b.length:Int)-(1))):Int).toNat)) (o:=1) (y:=(⟨j.bC,IntKind.wrap .i64 (a+(1))⟩:Br)) (ty:=100) Bf Bf rfl B8 (Cc k).2 rfl (by decide) rfl) ?_
     exact fun hg=>hN0 _ (Option.some.inj hg).symm _ (Ax [(90000,90000),(0,0)] rfl rfl rfl (Ah (An (E:=Ad.E) _ false) (Ah (An (E:=Ad.E) _ false) (oR (oR (Ah (Cl (E:=Br.E) (id:=90000) (l':=(b.set (((IntKind.wrap .i64 ((b.length:Int)-(1))):Int).toNat) (⟨j.bC,IntKind.wrap .i64 (a+(1))⟩:Br))) (by first|rfl|omega|(simp;done)|(simp;omega)) rfl) (oR (oR A2))))))) (A0 (Ba (cs:=[Aa c,Aa d]) (ty:=92) rfl (show Ao _ 0=_ from B8)) (A0 (Cg (E:=Br.E) (ty:=100) (l':=(b.set (((IntKind.wrap .i64 ((b.length:Int)-(1))):Int).toNat) (⟨j.bC,IntKind.wrap .i64 (a+(1))⟩:Br))) rfl (show Ao _ 90000=_ from B8)) Ay)))
    ·refine iq (AV.agg [Aa a,Aa (IntKind.wrap .i64 (a+(1)))]) rfl ?_
     refine imp (Dm (show _=some ((Eu Br.E 100234 ([(⟨a,IntKind.wrap .i64 (a+(1))⟩:Br)]:List Br)),[(100234,some ⟨Az Br.E ([(⟨a,IntKind.wrap .i64 (a+(1))⟩:Br)]:List Br),100⟩)]) from rfl)) ?_
     refine Aq fun ad w=> ?_
     refine imp (Dm (show _=some ((B3 Br.E 100235 (b++([(⟨a,IntKind.wrap .i64 (a+(1))⟩:Br)]:List Br))),(Jj Br.E 100235 90000 100 b ([(⟨a,IntKind.wrap .i64 (a+(1))⟩:Br)]:List Br))) from (Ie (E:=Br.E) (l':=b) (xs:=([(⟨a,IntKind.wrap .i64 (a+(1))⟩:Br)]:List Br)) rfl rfl (Fq (E:=Br.E) (ty:=100) rfl rfl B8) asE rfl (fun hne=>Eq.trans B8 (C7 hne)) w))) ?_
     exact fun hg=>hN0 _ (Option.some.inj hg).symm _ (Ax [(90000,100235),(0,0)] rfl rfl rfl (Ah (An (E:=Ad.E) _ false) (Ah (An (E:=Ad.E) _ false) (oR (oR (Ah (Cl (E:=Br.E) (id:=100235) (l':=(b++([(⟨a,IntKind.wrap .i64 (a+(1))⟩:Br)]:List Br))) rfl rfl) (oR (oR A2))))))) (A0 (Ba (cs:=[Aa c,Aa d]) (ty:=92) rfl (show Ao _ 0=_ from B8)) (A0 (Cg (E:=Br.E) (ty:=100) (l':=(b++([(⟨a,IntKind.wrap .i64 (a+(1))⟩:Br)]:List Br))) rfl (show Ao _ 100235=_ from B8)) Ay)))
   ·refine iq (AV.agg [Aa a,Aa (IntKind.wrap .i64 (a+(1)))]) rfl ?_
    refine imp (Dm (show _=some ((Eu Br.E 100226 ([(⟨a,IntKind.wrap .i64 (a+(1))⟩:Br)]:List Br)),[(100226,some ⟨Az Br.E ([(⟨a,IntKind.wrap .i64 (a+(1))⟩:Br)]:List Br),100⟩)]) from rfl)) ?_
    refine Aq fun ae x=> ?_
    refine imp (Dm (show _=some ((B3 Br.E 100227 (b++([(⟨a,IntKind.wrap .i64 (a+(1))⟩:Br)]:List Br))),(Jj Br.E 100227 90000 100 b ([(⟨a,IntKind.wrap .i64 (a+(1))⟩:Br)]:List Br))) from (Ie (E:=Br.E) (l':=b) (xs:=([(⟨a,IntKind.wrap .i64 (a+(1))⟩:Br)]:List Br)) rfl rfl (Fq (E:=Br.E) (ty:=100) rfl rfl B8) asE rfl (fun hne=>Eq.trans B8 (C7 hne)) x))) ?_
    exact fun hg=>hN0 _ (Option.some.inj hg).symm _ (Ax [(90000,100227),(0,0)] rfl rfl rfl (Ah (An (E:=Ad.E) _ false) (Ah (An (E:=Ad.E) _ false) (oR (oR (Ah (Cl (E:=Br.E) (id:=100227) (l':=(b++([(⟨a,IntKind.wrap .i64 (a+(1))⟩:Br)]:List Br))) rfl rfl) (oR (oR A2))))))) (A0 (Ba (cs:=[Aa c,Aa d]) (ty:=92) rfl (show Ao _ 0=_ from B8)) (A0 (Cg (E:=Br.E) (ty:=100) (l':=(b++([(⟨a,IntKind.wrap .i64 (a+(1))⟩:Br)]:List Br))) rfl (show Ao _ 100227=_ from B8)) Ay)))
 ·exact fun hg=>gI (hR _ (Option.some.inj hg).symm) (aX (E:=Br.E) (ty:=100) (l':=b) _ rfl B8)
theorem s7 (n:Nat) (a b:List Ad) (c d f:Int) {t:Qw} (R:AV→Mem→Prop) (hR:∀r:Qw,t=r→∀u m,B5 ((Ai Br.E r)) u m→R u m) (k:Nat) (x:Int×List Br) (hx:A7 (fun y:Int×List Br=>Uw n a b c d f y.1 y.2) k x=some t) {s:St} (hw:Bb KK 73 0 s (Rf (Ai Ad.E a) (Ai Ad.E b) AV.Bp (B3 Br.E 90000 x.2) c x.1 d f [(90000,B9 Br.E 100 x.2)])):Bu pg KK 73 0 (.loop bL) s (aD R):=
 Ajr R (σ:=Nat×(Int×List Br)) (fun z=>A7 (fun y:Int×List Br=>Uw n a b c d f y.1 y.2) z.1 z.2=some t) (fun z=>(Ai Ad.E a)) (fun z=>(Ai Ad.E b)) (fun z=>AV.Bp) (fun z=>(B3 Br.E 90000 z.2.2)) (fun z=>c) (fun z=>z.2.1) (fun z=>d) (fun z=>f) (fun z=>[(90000,B9 Br.E 100 z.2.2)]) (fun z=>z.1) (by
  rintro ⟨k,y⟩ h
  cases k with
  |zero=>exact (Bi h).elim
  |succ k=>
   obtain ⟨u,g,i,j⟩:=Bh h
   exact p8 n a b c d f y.1 y.2 R _ (fun r e=>hR r (j _ e).symm) (fun y' e s' hw=>⟨(k,y'),i _ e,Nat.lt_succ_self k,hw⟩) g) (k,x) hx hw
theorem Ahi (n:Nat) (b c:List Ad) (a:H6) {t:Qw} (R:AV→Mem→Prop) (hR:∀r:Qw,t=r→∀u m,B5 ((Ai Br.E r)) u m→R u m):Abo n b c a=some t→Adg (Ai Ad.E b) (Ai Ad.E c) a.C6 a.Cp R:=by
 unfold Abo Adg
 refine Aq fun d e=> ?_
 refine imp (Av (Alo e)) ?_
 refine imp Ec ?_
 iterate 2 refine imp Ag ?_
 exact fun hg=>s7 n b c d.2 a.C6 a.Cp R hR n _ hg (Ax [(90000,89500),(0,0)] rfl rfl rfl (Ah (An (E:=Ad.E) _ false) (Ah (An (E:=Ad.E) _ false) (oR (oR (Ah Ft (oR (oR A2))))))) (A0 (Ba (cs:=[Aa a.C6,Aa a.Cp]) (ty:=92) rfl (show Ao _ 0=_ from B8)) (A0 Mx Ay)))
theorem Am8 {n:Nat} {b:List Ad} {c:List Ad} {a:H6} {t:Qw} (h:Abo n b c a=some t):Cj pg KK.gl 165 [Ai Ad.E b,Ai Ad.E c,AV.agg [Aa a.C6,Aa a.Cp]] ((Ai Br.E t)):=
 A1 (by first|rfl|simp [Ap,clean,Aj,En.Cs]) (by first|rfl|simp [Ap,clean,Aj,En.Cs]) (uH (Ai Ad.E b) (Ai Ad.E c) a.C6 a.Cp _ (Ahi n b c a (B5 ((Ai Br.E t))) (fun r e u m h=>by rw [e];exact h) h))
theorem Akc (n:Nat) (c d:List Ad) (a:H6) {t:Aer} (R:AV→Mem→Prop) (hR:∀r:Aer,t=r→∀u m,B5 ((AV.Bn [Ai Br.E r.1,Aa r.2])) u m→R u m):g83 n c d a=some t→F83 (Ai Ad.E c) (Ai Ad.E d) a.C6 a.Cp R:=by
 unfold g83 F83
 refine imp (Dm (show _=some ((Eu (Ci Ad.E) 6 ([c,d]:List (List Ad))),[(6,some ⟨Az (Ci Ad.E) ([c,d]:List (List Ad)),49⟩)]) from rfl)) ?_
 refine Aq fun g e=> ?_
 refine imp (E3 (E9 (Ca (Air _ (Ca (Li _ _) (Ca (Li _ _) D1))) (Ca (Ai8 (E:=(Ci Ad.E)) (ty:=49) (l':=([c,d]:List (List Ad))) _ (Ci.nf Ad.E) rfl B8) D1)) (Al4 e) rfl)) ?_
 refine imp Ag ?_
 refine As (fun _=> ?_) (fun _=> ?_)
 ·exact fun hg=>D7 rfl (hR _ (Option.some.inj hg).symm) (Di (Pj (E:=Br.E) _) (fS By))
 ·refine iq (AV.agg [Aa a.C6,Aa a.Cp]) (Dz (b:=⟨[Aa a.C6,Aa a.Cp],92⟩) B8 rfl) ?_
  refine imp Bw ?_
  iterate 2 refine imp Ag ?_
  refine Aq fun h f=> ?_
  refine imp (Av (Am8 f)) ?_
  exact fun hg=>D7 rfl (hR _ (Option.some.inj hg).symm) (Di (Akb (E:=Br.E) _ _ false) (fS By))
theorem Apo {n:Nat} {b:List Ad} {c:List Ad} {a:H6} {t:Aer} (h:g83 n b c a=some t):Cj pg KK.gl 83 [Ai Ad.E b,Ai Ad.E c,AV.agg [Aa a.C6,Aa a.Cp]] ((AV.Bn [Ai Br.E t.1,Aa t.2])):=
 A1 (by first|rfl|simp [Ap,clean,Aj,En.Cs]) (by first|rfl|simp [Ap,clean,Aj,En.Cs]) (Abi (Ai Ad.E b) (Ai Ad.E c) a.C6 a.Cp _ (Akc n b c a (B5 ((AV.Bn [Ai Br.E t.1,Aa t.2]))) (fun r e u m h=>by rw [e];exact h) h))
theorem Aj5 (n:Nat) (c d:List Ad) (b:H6) {t:Afc} (R:AV→Mem→Prop) (hR:∀r:Afc,t=r→∀u m,B5 ((AV.Bn [Aa r.1,Aa r.2])) u m→R u m):g28 n c d b=some t→F28 (Ai Ad.E c) (Ai Ad.E d) b.C6 b.Cp R:=by
 unfold g28 F28
 refine Aq fun e f=> ?_
 refine imp (Av (Apo f)) ?_
 refine imp Ec ?_
 refine imp Ag ?_
 refine As (fun _=> ?_) (fun _=> ?_)
 ·exact fun hg=>D7 rfl (hR _ (Option.some.inj hg).symm) (fS (fS By))
 ·refine iq (Aa (e.1.length:Int)) rfl ?_
  refine imp Ag ?_
  refine As (fun _=> ?_) (fun _=> ?_)
  ·exact fun hg=>D7 rfl (hR _ (Option.some.inj hg).symm) (fS (fS By))
  ·refine Aq fun a g=> ?_
   refine iq (AV.B6 [Aa a.bC,Aa a.To] 0) (Bo (E:=Br.E) rfl g) ?_
   refine iq (AV.B6 [Aa a.bC,Aa a.To] 0) rfl ?_
   refine iq (Aa a.bC) rfl ?_
   refine imp Ag ?_
   exact fun hg=>D7 rfl (hR _ (Option.some.inj hg).symm) (fS (fS By))
theorem Aom {n:Nat} {b:List Ad} {c:List Ad} {a:H6} {t:Afc} (h:g28 n b c a=some t):Cj pg KK.gl 28 [Ai Ad.E b,Ai Ad.E c,AV.agg [Aa a.C6,Aa a.Cp]] ((AV.Bn [Aa t.1,Aa t.2])):=
 A1 (by first|rfl|simp [Ap,clean,Aj,En.Cs]) (by first|rfl|simp [Ap,clean,Aj,En.Cs]) (Agr (Ai Ad.E b) (Ai Ad.E c) a.C6 a.Cp _ (Aj5 n b c a (B5 ((AV.Bn [Aa t.1,Aa t.2]))) (fun r e u m h=>by rw [e];exact h) h))
theorem iD (n:Nat) (w Bm a b c d f g h i j k o p q s v ad x z aa ab ae:Int) {t:(Int)⊕((Int)⊕G2)} (R:AV→Mem→Prop) (N0 N1:St→Prop) (hR:∀r:G2,t=(.inr (.inr r))→∀u m,B5 ((Aa r)) u m→R u m) (hN0:∀y:Int,t=(.inr (.inl y))→∀s':St,Bb KK 55 0 s' (S0 w Bm a b c d f g h i j k o p q s v y Bm a b c d f g h i j k o p q s v [])→N0 s') (hN1:∀y:Int,t=(.inl y)→∀s':St,Bb KK 55 0 s' (Nd w Bm a b c d f g h i j k o p q s v ad x z aa ab y Bm a b c d f g h i j k o p q s v [])→N1 s'):Pe n w Bm a b c d f g h i j k o p q s v ad x z aa ab ae=some t→Tw w Bm a b c d f g h i j k o p q s v ad x z aa ab ae Bm a b c d f g h i j k o p q s v [] R N0 N1:=by
 unfold Pe Tw
 refine As (fun _=> ?_) (fun _=> ?_)
 ·refine Aq fun af ag=> ?_
  refine iq (Aa af) (Za (E:=Ce) (l:=([x,z,aa,ab]:List Int)) (len:=4) (e:=3) Bf Bf Bf rfl ⟨rfl,rfl⟩ ag rfl) ?_
  refine imp Ag ?_
  refine As (fun _=> ?_) (fun _=> ?_)
  ·exact Ct hR rfl rfl
  ·refine As (fun _=> ?_) (fun _=> ?_)
   ·exact Ct hR rfl rfl
   ·exact fun hg=>hN1 _ (Option.some.inj hg).symm _ (Ax [(0,0)] rfl rfl rfl (oR (oR (oR (oR (oR (oR A2)))))) (A0 (Ba (cs:=[Aa Bm,Aa a,Aa b,Aa c,Aa d,Aa f,Aa g,Aa h,Aa i,Aa j,Aa k,Aa o,Aa p,Aa q,Aa s,Aa v]) (ty:=111) rfl (show Ao _ 0=_ from B8)) Ay))
 ·exact fun hg=>hN0 _ (Option.some.inj hg).symm _ (Ax [(0,0)] rfl rfl rfl (oR (oR (oR (oR A2)))) (A0 (Ba (cs:=[Aa Bm,Aa a,Aa b,Aa c,Aa d,Aa f,Aa g,Aa h,Aa i,Aa j,Aa k,Aa o,Aa p,Aa q,Aa s,Aa v]) (ty:=111) rfl (show Ao _ 0=_ from B8)) Ay))
theorem iV (n:Nat) (c2 Bm a b c d f g i j l o p q v w aa ab ad ae af ag:Int) {t:((Int)⊕G2)} (R:AV→Mem→Prop) (N0:St→Prop) (hR:∀r:G2,t=(.inr r)→∀u m,B5 ((Aa r)) u m→R u m) (hN0:∀y:Int,t=(.inl y)→∀s':St,Bb KK 55 0 s' (S0 c2 Bm a b c d f g i j l o p q v w aa y Bm a b c d f g i j l o p q v w aa [])→N0 s') (k:Nat) (x:Int) (hx:A7 (fun y:Int=>Pe n c2 Bm a b c d f g i j l o p q v w aa ab ad ae af ag y) k x=some t) {s:St} (hw:Bb KK 55 0 s (Nd c2 Bm a b c d f g i j l o p q v w aa ab ad ae af ag x Bm a b c d f g i j l o p q v w aa [])):Bu pg KK 55 0 (.loop Tr) s (Tl R N0):=
 Afl R N0 (σ:=Nat×(Int)) (fun z=>A7 (fun y:Int=>Pe n c2 Bm a b c d f g i j l o p q v w aa ab ad ae af ag y) z.1 z.2=some t) (fun z=>c2) (fun z=>Bm) (fun z=>a) (fun z=>b) (fun z=>c) (fun z=>d) (fun z=>f) (fun z=>g) (fun z=>i) (fun z=>j) (fun z=>l) (fun z=>o) (fun z=>p) (fun z=>q) (fun z=>v) (fun z=>w) (fun z=>aa) (fun z=>ab) (fun z=>ad) (fun z=>ae) (fun z=>af) (fun z=>ag) (fun z=>z.2) (fun z=>Bm) (fun z=>a) (fun z=>b) (fun z=>c) (fun z=>d) (fun z=>f) (fun z=>g) (fun z=>i) (fun z=>j) (fun z=>l) (fun z=>o) (fun z=>p) (fun z=>q) (fun z=>v) (fun z=>w) (fun z=>aa) (fun z=>[]) (fun z=>z.1) (by
  rintro ⟨k,y⟩ h
  cases k with
  |zero=>exact (Bi h).elim
  |succ k=>
   obtain ⟨u,h1,h2,h3⟩:=Bh h
   exact iD n c2 Bm a b c d f g i j l o p q v w aa ab ad ae af ag y R N0 _ (fun r e=>hR r (h3 _ e).symm) (fun y' e=>hN0 y' (h3 _ e).symm) (fun y' e s' hw=>⟨(k,y'),h2 _ e,Nat.lt_succ_self k,hw⟩) h1) (k,x) hx hw
theorem aR (n:Nat) (c2 v aa Bm a b c d e f g h i j k o p q s u32:Int) {t:(Int)⊕((Int)⊕((Int)⊕G2))} (R:AV→Mem→Prop) (N0 N1 N2:St→Prop) (hR:∀r:G2,t=(.inr (.inr (.inr r)))→∀u m,B5 ((Aa r)) u m→R u m) (hN0:∀y:Int,t=(.inr (.inr (.inl y)))→∀s':St,Bb KK 55 0 s' (Ny c2 y Bm a b c d e f g h i j k o p q s [])→N0 s') (hN1:∀y:Int,t=(.inr (.inl y))→∀s':St,Bb KK 55 0 s' (Jq c2 v v y Bm a b c d e f g h i j k o p q s [])→N1 s') (hN2:∀y:Int,t=(.inl y)→∀s':St,Bb KK 55 0 s' (Ik c2 v aa v aa y Bm a b c d e f g h i j k o p q s [])→N2 s'):Kn n c2 v aa Bm a b c d e f g h i j k o p q s u32=some t→Nb c2 v aa v aa u32 Bm a b c d e f g h i j k o p q s [] R N0 N1 N2:=by
 unfold Kn Nb
 refine As (fun _=> ?_) (fun _=> ?_)
 ·refine Aq fun w ab=> ?_
  refine iq (AV.ptr 0 (((v:Int).toNat)*4+0)) (Ve (l:=([(⟨Bm,a,b,c⟩:De),(⟨d,e,f,g⟩:De),(⟨h,i,j,k⟩:De),(⟨o,p,q,s⟩:De)]:List De)) (len:=4) rfl ab) ?_
  refine Aq fun ai ad=> ?_
  refine iq (AV.ptr 0 _) (Tn (l:=([w.c0,w.c1,w.c2,w.c3]:List Int)) (len:=4) rfl ad) ?_
  refine iq (Aa ai) (aL (E:=De.E) (E2:=Ce) (l:=([(⟨Bm,a,b,c⟩:De),(⟨d,e,f,g⟩:De),(⟨h,i,j,k⟩:De),(⟨o,p,q,s⟩:De)]:List De)) (l2:=([w.c0,w.c1,w.c2,w.c3]:List Int)) (ty:=111) B8 (Cc ab).2 rfl rfl (Cc ad).2 rfl) ?_
  refine imp Ag ?_
  refine Aq fun x ae=> ?_
  refine iq (AV.ptr 0 (((v:Int).toNat)*4+0)) (Ve (l:=([(⟨Bm,a,b,c⟩:De),(⟨d,e,f,g⟩:De),(⟨h,i,j,k⟩:De),(⟨o,p,q,s⟩:De)]:List De)) (len:=4) rfl ae) ?_
  refine Aq fun aj af=> ?_
  refine iq (AV.ptr 0 _) (Tn (l:=([x.c0,x.c1,x.c2,x.c3]:List Int)) (len:=4) rfl af) ?_
  refine iq (Aa aj) (aL (E:=De.E) (E2:=Ce) (l:=([(⟨Bm,a,b,c⟩:De),(⟨d,e,f,g⟩:De),(⟨h,i,j,k⟩:De),(⟨o,p,q,s⟩:De)]:List De)) (l2:=([x.c0,x.c1,x.c2,x.c3]:List Int)) (ty:=111) B8 (Cc ae).2 rfl rfl (Cc af).2 rfl) ?_
  refine imp Ag ?_
  refine Aq fun z ag=> ?_
  refine iq (AV.ptr 0 (((aa:Int).toNat)*4+0)) (Ve (l:=([(⟨Bm,a,b,c⟩:De),(⟨d,e,f,g⟩:De),(⟨h,i,j,k⟩:De),(⟨o,p,q,s⟩:De)]:List De)) (len:=4) rfl ag) ?_
  refine Aq fun ak ah=> ?_
  refine iq (AV.ptr 0 _) (Tn (l:=([z.c0,z.c1,z.c2,z.c3]:List Int)) (len:=4) rfl ah) ?_
  refine iq (Aa ak) (aL (E:=De.E) (E2:=Ce) (l:=([(⟨Bm,a,b,c⟩:De),(⟨d,e,f,g⟩:De),(⟨h,i,j,k⟩:De),(⟨o,p,q,s⟩:De)]:List De)) (l2:=([z.c0,z.c1,z.c2,z.c3]:List Int)) (ty:=111) B8 (Cc ag).2 rfl rfl (Cc ah).2 rfl) ?_
  refine imp Ag ?_
  refine As (fun _=> ?_) (fun _=> ?_)
  ·exact Ct hR rfl rfl
  ·exact fun hg=>hN2 _ (Option.some.inj hg).symm _ (Ax [(0,0)] rfl rfl rfl (oR (oR (oR (oR (oR (oR (oR A2))))))) (A0 (Ba (cs:=[Aa Bm,Aa a,Aa b,Aa c,Aa d,Aa e,Aa f,Aa g,Aa h,Aa i,Aa j,Aa k,Aa o,Aa p,Aa q,Aa s]) (ty:=111) rfl (show Ao _ 0=_ from B8)) Ay))
 ·exact fun hg=>hN1 _ (Option.some.inj hg).symm _ (Ax [(0,0)] rfl rfl rfl (oR (oR (oR (oR (oR A2))))) (A0 (Ba (cs:=[Aa Bm,Aa a,Aa b,Aa c,Aa d,Aa e,Aa f,Aa g,Aa h,Aa i,Aa j,Aa k,Aa o,Aa p,Aa q,Aa s]) (ty:=111) rfl (show Ao _ 0=_ from B8)) Ay))
theorem bR (n:Nat) (b a c Bm d f g i j l o p q v w aa ab ad ae:Int) {t:((Int)⊕((Int)⊕G2))} (R:AV→Mem→Prop) (N0 N1:St→Prop) (hR:∀r:G2,t=(.inr (.inr r))→∀u m,B5 ((Aa r)) u m→R u m) (hN0:∀y:Int,t=(.inr (.inl y))→∀s':St,Bb KK 55 0 s' (Ny b y Bm d f g i j l o p q v w aa ab ad ae [])→N0 s') (hN1:∀y:Int,t=(.inl y)→∀s':St,Bb KK 55 0 s' (Jq b a a y Bm d f g i j l o p q v w aa ab ad ae [])→N1 s') (k:Nat) (x:Int) (hx:A7 (fun y:Int=>Kn n b a c Bm d f g i j l o p q v w aa ab ad ae y) k x=some t) {s:St} (hw:Bb KK 55 0 s (Ik b a c a c x Bm d f g i j l o p q v w aa ab ad ae [])):Bu pg KK 55 0 (.loop Mz) s (Mv R N0 N1):=
 r9 R N0 N1 (σ:=Nat×(Int)) (fun z=>A7 (fun y:Int=>Kn n b a c Bm d f g i j l o p q v w aa ab ad ae y) z.1 z.2=some t) (fun z=>b) (fun z=>a) (fun z=>c) (fun z=>a) (fun z=>c) (fun z=>z.2) (fun z=>Bm) (fun z=>d) (fun z=>f) (fun z=>g) (fun z=>i) (fun z=>j) (fun z=>l) (fun z=>o) (fun z=>p) (fun z=>q) (fun z=>v) (fun z=>w) (fun z=>aa) (fun z=>ab) (fun z=>ad) (fun z=>ae) (fun z=>[]) (fun z=>z.1) (by
  rintro ⟨k,y⟩ h
  cases k with
  |zero=>exact (Bi h).elim
  |succ k=>
   obtain ⟨u,h1,h2,h3⟩:=Bh h
   exact aR n b a c Bm d f g i j l o p q v w aa ab ad ae y R N0 N1 _ (fun r e=>hR r (h3 _ e).symm) (fun y' e=>hN0 y' (h3 _ e).symm) (fun y' e=>hN1 y' (h3 _ e).symm) (fun y' e s' hw=>⟨(k,y'),h2 _ e,Nat.lt_succ_self k,hw⟩) h1) (k,x) hx hw
theorem gN (n:Nat) (v s Bm a b c d e f g h i j k l o p q w:Int) {t:(Int)⊕((Int)⊕G2)} (R:AV→Mem→Prop) (N0 N1:St→Prop) (hR:∀r:G2,t=(.inr (.inr r))→∀u m,B5 ((Aa r)) u m→R u m) (hN0:∀y:Int,t=(.inr (.inl y))→∀s':St,Bb KK 55 0 s' (Ny v y Bm a b c d e f g h i j k l o p q [])→N0 s') (hN1:∀y:Int,t=(.inl y)→∀s':St,Bb KK 55 0 s' (Jq v s s y Bm a b c d e f g h i j k l o p q [])→N1 s'):Pn n v s Bm a b c d e f g h i j k l o p q w=some t→Tk v s s w Bm a b c d e f g h i j k l o p q [] R N0 N1:=by
 unfold Pn Tk
 refine As (fun _=> ?_) (fun _=> ?_)
 ·exact fun hg=>bR n v s w Bm a b c d e f g h i j k l o p q R N0 N1 hR hN0 hN1 n _ hg (Ax [(0,0)] rfl rfl rfl (oR (oR (oR (oR (oR (oR (oR A2))))))) (A0 (Ba (cs:=[Aa Bm,Aa a,Aa b,Aa c,Aa d,Aa e,Aa f,Aa g,Aa h,Aa i,Aa j,Aa k,Aa l,Aa o,Aa p,Aa q]) (ty:=111) rfl (show Ao _ 0=_ from B8)) Ay))
 ·exact fun hg=>hN0 _ (Option.some.inj hg).symm _ (Ax [(0,0)] rfl rfl rfl (oR (oR (oR A2))) (A0 (Ba (cs:=[Aa Bm,Aa a,Aa b,Aa c,Aa d,Aa e,Aa f,Aa g,Aa h,Aa i,Aa j,Aa k,Aa l,Aa o,Aa p,Aa q]) (ty:=111) rfl (show Ao _ 0=_ from B8)) Ay))
theorem j9 (n:Nat) (b a Bm c d f g i j l o p q v w aa ab ad:Int) {t:((Int)⊕G2)} (R:AV→Mem→Prop) (N0:St→Prop) (hR:∀r:G2,t=(.inr r)→∀u m,B5 ((Aa r)) u m→R u m) (hN0:∀y:Int,t=(.inl y)→∀s':St,Bb KK 55 0 s' (Ny b y Bm c d f g i j l o p q v w aa ab ad [])→N0 s') (k:Nat) (x:Int) (hx:A7 (fun y:Int=>Pn n b a Bm c d f g i j l o p q v w aa ab ad y) k x=some t) {s:St} (hw:Bb KK 55 0 s (Jq b a a x Bm c d f g i j l o p q v w aa ab ad [])):Bu pg KK 55 0 (.loop Mw) s (Tm R N0):=
 Afb R N0 (σ:=Nat×(Int)) (fun z=>A7 (fun y:Int=>Pn n b a Bm c d f g i j l o p q v w aa ab ad y) z.1 z.2=some t) (fun z=>b) (fun z=>a) (fun z=>a) (fun z=>z.2) (fun z=>Bm) (fun z=>c) (fun z=>d) (fun z=>f) (fun z=>g) (fun z=>i) (fun z=>j) (fun z=>l) (fun z=>o) (fun z=>p) (fun z=>q) (fun z=>v) (fun z=>w) (fun z=>aa) (fun z=>ab) (fun z=>ad) (fun z=>[]) (fun z=>z.1) (by
  rintro ⟨k,y⟩ h
  cases k with
  |zero=>exact (Bi h).elim
  |succ k=>
   obtain ⟨u,h1,h2,h3⟩:=Bh h
   exact gN n b a Bm c d f g i j l o p q v w aa ab ad y R N0 _ (fun r e=>hR r (h3 _ e).symm) (fun y' e=>hN0 y' (h3 _ e).symm) (fun y' e s' hw=>⟨(k,y'),h2 _ e,Nat.lt_succ_self k,hw⟩) h1) (k,x) hx hw
theorem y6 (n:Nat) (s Bm a b c d e f g h i j k l o p q v:Int) {t:(Int)⊕G2} (R:AV→Mem→Prop) (N0:St→Prop) (hR:∀r:G2,t=(.inr r)→∀u m,B5 ((Aa r)) u m→R u m) (hN0:∀y:Int,t=(.inl y)→∀s':St,Bb KK 55 0 s' (Ny s y Bm a b c d e f g h i j k l o p q [])→N0 s'):cP n s Bm a b c d e f g h i j k l o p q v=some t→oC s v Bm a b c d e f g h i j k l o p q [] R N0:=by
 unfold cP oC
 refine As (fun _=> ?_) (fun _=> ?_)
 ·exact fun hg=>j9 n s v Bm a b c d e f g h i j k l o p q R N0 hR hN0 n _ hg (Ax [(0,0)] rfl rfl rfl (oR (oR (oR (oR (oR A2))))) (A0 (Ba (cs:=[Aa Bm,Aa a,Aa b,Aa c,Aa d,Aa e,Aa f,Aa g,Aa h,Aa i,Aa j,Aa k,Aa l,Aa o,Aa p,Aa q]) (ty:=111) rfl (show Ao _ 0=_ from B8)) Ay))
 ·exact Ct hR rfl rfl
theorem Aat (n:Nat) (a Bm b c d f g i j l o p q v w aa ab:Int) {t:G2} (R:AV→Mem→Prop) (hR:∀r:G2,t=r→∀u m,B5 ((Aa r)) u m→R u m) (k:Nat) (x:Int) (hx:A7 (fun y:Int=>cP n a Bm b c d f g i j l o p q v w aa ab y) k x=some t) {s:St} (hw:Bb KK 55 0 s (Ny a x Bm b c d f g i j l o p q v w aa ab [])):Bu pg KK 55 0 (.loop Xa) s (kO R):=
 Ami R (σ:=Nat×(Int)) (fun z=>A7 (fun y:Int=>cP n a Bm b c d f g i j l o p q v w aa ab y) z.1 z.2=some t) (fun z=>a) (fun z=>z.2) (fun z=>Bm) (fun z=>b) (fun z=>c) (fun z=>d) (fun z=>f) (fun z=>g) (fun z=>i) (fun z=>j) (fun z=>l) (fun z=>o) (fun z=>p) (fun z=>q) (fun z=>v) (fun z=>w) (fun z=>aa) (fun z=>ab) (fun z=>[]) (fun z=>z.1) (by
  rintro ⟨k,y⟩ h
  cases k with
  |zero=>exact (Bi h).elim
  |succ k=>
   obtain ⟨u,h1,h2,h3⟩:=Bh h
   exact y6 n a Bm b c d f g i j l o p q v w aa ab y R _ (fun r e=>hR r (h3 _ e).symm) (fun y' e s' hw=>⟨(k,y'),h2 _ e,Nat.lt_succ_self k,hw⟩) h1) (k,x) hx hw
theorem wX (n:Nat) (x Bm a b c d f g h i j k o p q s v z:Int) {t:(Int)⊕G2} (R:AV→Mem→Prop) (N0:St→Prop) (hR:∀r:G2,t=(.inr r)→∀u m,B5 ((Aa r)) u m→R u m) (hN0:∀y:Int,t=(.inl y)→∀s':St,Bb KK 55 0 s' (S0 x Bm a b c d f g h i j k o p q s v y Bm a b c d f g h i j k o p q s v [])→N0 s'):fY n x Bm a b c d f g h i j k o p q s v z=some t→kY x Bm a b c d f g h i j k o p q s v z Bm a b c d f g h i j k o p q s v [] R N0:=by
 unfold fY kY
 refine As (fun _=> ?_) (fun _=> ?_)
 ·refine Aq fun w aa=> ?_
  refine iq (AV.agg [Aa w.c0,Aa w.c1,Aa w.c2,Aa w.c3]) (Wd (E:=De.E) (l:=([(⟨Bm,a,b,c⟩:De),(⟨d,f,g,h⟩:De),(⟨i,j,k,o⟩:De),(⟨p,q,s,v⟩:De)]:List De)) (len:=4) (e:=109) Bf Bf Bf rfl ⟨rfl,rfl⟩ aa) ?_
  refine imp Ak2 ?_
  iterate 4 refine imp Ag ?_
  exact fun hg=>iV n x Bm a b c d f g h i j k o p q s v z w.c0 w.c1 w.c2 w.c3 R N0 hR hN0 n _ hg (Ax [(0,0)] rfl rfl rfl (oR (oR (oR (oR (oR (oR A2)))))) (A0 (Ba (cs:=[Aa Bm,Aa a,Aa b,Aa c,Aa d,Aa f,Aa g,Aa h,Aa i,Aa j,Aa k,Aa o,Aa p,Aa q,Aa s,Aa v]) (ty:=111) rfl (show Ao _ 0=_ from B8)) Ay))
 ·refine Hm fun t0 e0=> ?_
  exact fun hg=>Aat n x Bm a b c d f g h i j k o p q s v R (fun r e=>hR r (e0.trans (congrArg Sum.inr e))) n _ hg (Ax [(0,0)] rfl rfl rfl (oR (oR (oR A2))) (A0 (Ba (cs:=[Aa Bm,Aa a,Aa b,Aa c,Aa d,Aa f,Aa g,Aa h,Aa i,Aa j,Aa k,Aa o,Aa p,Aa q,Aa s,Aa v]) (ty:=111) rfl (show Ao _ 0=_ from B8)) Ay))
theorem yA (n:Nat) (c2 Bm a b c d f g i j l o p q v w aa:Int) {t:G2} (R:AV→Mem→Prop) (hR:∀r:G2,t=r→∀u m,B5 ((Aa r)) u m→R u m) (k:Nat) (x:Int) (hx:A7 (fun y:Int=>fY n c2 Bm a b c d f g i j l o p q v w aa y) k x=some t) {s:St} (hw:Bb KK 55 0 s (S0 c2 Bm a b c d f g i j l o p q v w aa x Bm a b c d f g i j l o p q v w aa [])):Bu pg KK 55 0 (.loop Xd) s (mX R):=
 Al7 R (σ:=Nat×(Int)) (fun z=>A7 (fun y:Int=>fY n c2 Bm a b c d f g i j l o p q v w aa y) z.1 z.2=some t) (fun z=>c2) (fun z=>Bm) (fun z=>a) (fun z=>b) (fun z=>c) (fun z=>d) (fun z=>f) (fun z=>g) (fun z=>i) (fun z=>j) (fun z=>l) (fun z=>o) (fun z=>p) (fun z=>q) (fun z=>v) (fun z=>w) (fun z=>aa) (fun z=>z.2) (fun z=>Bm) (fun z=>a) (fun z=>b) (fun z=>c) (fun z=>d) (fun z=>f) (fun z=>g) (fun z=>i) (fun z=>j) (fun z=>l) (fun z=>o) (fun z=>p) (fun z=>q) (fun z=>v) (fun z=>w) (fun z=>aa) (fun z=>[]) (fun z=>z.1) (by
  rintro ⟨k,y⟩ h
  cases k with
  |zero=>exact (Bi h).elim
  |succ k=>
   obtain ⟨u,h1,h2,h3⟩:=Bh h
   exact wX n c2 Bm a b c d f g i j l o p q v w aa y R _ (fun r e=>hR r (h3 _ e).symm) (fun y' e s' hw=>⟨(k,y'),h2 _ e,Nat.lt_succ_self k,hw⟩) h1) (k,x) hx hw
theorem Aj2 (n:Nat) (a:E6) {t:G2} (R:AV→Mem→Prop) (hR:∀r:G2,t=r→∀u m,B5 ((Aa r)) u m→R u m):g95 n a=some t→F95 a.jA a.jK a.jV a.gQ a.kB a.kI a.jL a.jR a.gK a.jT a.jU a.iW a.Tb a.Tc a.Pr a.Ti R:=by
 unfold g95 F95
 exact fun hg=>yA n (0) a.jA a.jK a.jV a.gQ a.kB a.kI a.jL a.jR a.gK a.jT a.jU a.iW a.Tb a.Tc a.Pr a.Ti R hR n _ hg (Ax [(0,0)] rfl rfl rfl (oR (oR (oR (oR A2)))) (A0 (Ba (cs:=[Aa a.jA,Aa a.jK,Aa a.jV,Aa a.gQ,Aa a.kB,Aa a.kI,Aa a.jL,Aa a.jR,Aa a.gK,Aa a.jT,Aa a.jU,Aa a.iW,Aa a.Tb,Aa a.Tc,Aa a.Pr,Aa a.Ti]) (ty:=111) rfl (show Ao _ 0=_ from B8)) Ay))
theorem Aog {n:Nat} {a:E6} {t:G2} (h:g95 n a=some t):Cj pg KK.gl 95 [AV.agg [Aa a.jA,Aa a.jK,Aa a.jV,Aa a.gQ,Aa a.kB,Aa a.kI,Aa a.jL,Aa a.jR,Aa a.gK,Aa a.jT,Aa a.jU,Aa a.iW,Aa a.Tb,Aa a.Tc,Aa a.Pr,Aa a.Ti]] ((Aa t)):=
 A1 (by first|rfl|simp [Ap,clean,Aj,En.Cs]) (by first|rfl|simp [Ap,clean,Aj,En.Cs]) (Abt a.jA a.jK a.jV a.gQ a.kB a.kI a.jL a.jR a.gK a.jT a.jU a.iW a.Tb a.Tc a.Pr a.Ti _ (Aj2 n a (B5 ((Aa t))) (fun r e u m h=>by rw [e];exact h) h))
theorem Af3 (n:Nat) (b:List TP) (c:Int) {t:nV} (R:AV→Mem→Prop) (hR:∀r:nV,t=r→∀u m,B5 ((AV.agg (TP.E.enc r))) u m→R u m):N9 n b c=some t→Afk (Ai TP.E b) c R:=by
 unfold N9 Afk
 refine iq (Aa (b.length:Int)) rfl ?_
 refine imp Ag ?_
 refine Aq fun d e=> ?_
 refine iq (Aa d) (La e) ?_
 refine imp Ag ?_
 refine Aq fun a f=> ?_
 refine iq (AV.B6 [Aa a.X,Aa a.Y] 0) (Bo (E:=TP.E) rfl f) ?_
 refine iq (AV.agg [Aa a.X,Aa a.Y]) rfl ?_
 refine imp Bw ?_
 iterate 2 refine imp Ag ?_
 exact fun hg=>gI (hR _ (Option.some.inj hg).symm) (Im (E:=TP.E) _ a)
theorem Oy {n:Nat} {a:List TP} {b:Int} {t:nV} (h:N9 n a b=some t):Cj pg KK.gl 303 [Ai TP.E a,Aa b] ((AV.agg (TP.E.enc t))):=
 A1 (by first|rfl|simp [Ap,clean,Aj,En.Cs]) (by first|rfl|simp [Ap,clean,Aj,En.Cs]) (uD (Ai TP.E a) b _ (Af3 n a b (B5 ((AV.agg (TP.E.enc t)))) (fun r e u m h=>by rw [e];exact h) h))
theorem Adx (n:Nat) (a b:TP) {t:oB} (R:AV→Mem→Prop) (hR:∀r:oB,t=r→∀u m,B5 ((Aa r)) u m→R u m):sI n a b=some t→Aet a.X a.Y b.X b.Y R:=by
 unfold sI Aet
 exact Ct hR rfl rfl
theorem Ahq {n:Nat} {a:TP} {b:TP} {t:oB} (h:sI n a b=some t):Cj pg KK.gl 338 [AV.agg [Aa a.X,Aa a.Y],AV.agg [Aa b.X,Aa b.Y]] ((Aa t)):=
 A1 (by first|rfl|simp [Ap,clean,Aj,En.Cs]) (by first|rfl|simp [Ap,clean,Aj,En.Cs]) (y9 a.X a.Y b.X b.Y _ (Adx n a b (B5 ((Aa t))) (fun r e u m h=>by rw [e];exact h) h))
theorem Acs (n:Nat) (a b c:TP) {t:kS} (R:AV→Mem→Prop) (hR:∀r:kS,t=r→∀u m,B5 ((Aa r)) u m→R u m):R6 n a b c=some t→Aa7 a.X a.Y b.X b.Y c.X c.Y R:=by
 unfold R6 Aa7
 refine Aq fun g d=> ?_
 refine imp (Av (eJ d)) ?_
 refine imp Bw ?_
 iterate 2 refine imp Ag ?_
 refine Aq fun h e=> ?_
 refine imp (Av (eJ e)) ?_
 refine imp Bw ?_
 iterate 2 refine imp Ag ?_
 refine Aq fun i f=> ?_
 refine imp (Av (Ahq f)) ?_
 refine imp Ag ?_
 refine As (fun _=> ?_) (fun _=> ?_)
 ·exact Ct hR rfl rfl
 ·refine As (fun _=> ?_) (fun _=> ?_)
  ·exact Ct hR rfl rfl
  ·exact Ct hR rfl rfl
theorem Us {n:Nat} {a:TP} {b:TP} {c:TP} {t:kS} (h:R6 n a b c=some t):Cj pg KK.gl 302 [AV.agg [Aa a.X,Aa a.Y],AV.agg [Aa b.X,Aa b.Y],AV.agg [Aa c.X,Aa c.Y]] ((Aa t)):=
 A1 (by first|rfl|simp [Ap,clean,Aj,En.Cs]) (by first|rfl|simp [Ap,clean,Aj,En.Cs]) (yK a.X a.Y b.X b.Y c.X c.Y _ (Acs n a b c (B5 ((Aa t))) (fun r e u m h=>by rw [e];exact h) h))
theorem Acl (n:Nat) (a b c:TP) {t:mA} (R:AV→Mem→Prop) (hR:∀r:mA,t=r→∀u m,B5 ((Ae r)) u m→R u m):kF n a b c=some t→Agw a.X a.Y b.X b.Y c.X c.Y R:=by
 unfold kF Agw
 refine iq (Aa (if b.X<a.X then b.X else a.X)) Bf ?_
 refine imp Ag ?_
 refine As (fun _=> ?_) (fun _=> ?_)
 ·refine iq (Aa (if b.X>a.X then b.X else a.X)) Bf ?_
  refine imp Ag ?_
  refine As (fun _=> ?_) (fun _=> ?_)
  ·refine iq (Aa (if b.Y<a.Y then b.Y else a.Y)) Bf ?_
   refine imp Ag ?_
   refine As (fun _=> ?_) (fun _=> ?_)
   ·refine iq (Aa (if b.Y>a.Y then b.Y else a.Y)) Bf ?_
    refine imp Ag ?_
    exact Ct hR rfl rfl
   ·exact Ct hR rfl rfl
  ·exact Ct hR rfl rfl
 ·exact Ct hR rfl rfl
theorem Ang {n:Nat} {a:TP} {b:TP} {c:TP} {t:mA} (h:kF n a b c=some t):Cj pg KK.gl 341 [AV.agg [Aa a.X,Aa a.Y],AV.agg [Aa b.X,Aa b.Y],AV.agg [Aa c.X,Aa c.Y]] ((Ae t)):=
 A1 (by first|rfl|simp [Ap,clean,Aj,En.Cs]) (by first|rfl|simp [Ap,clean,Aj,En.Cs]) (wR a.X a.Y b.X b.Y c.X c.Y _ (Acl n a b c (B5 ((Ae t))) (fun r e u m h=>by rw [e];exact h) h))
theorem Afd (n:Nat) (a b c:TP) {t:lS} (R:AV→Mem→Prop) (hR:∀r:lS,t=r→∀u m,B5 ((Ae r)) u m→R u m):Py n a b c=some t→Af1 a.X a.Y b.X b.Y c.X c.Y R:=by
 unfold Py Af1
 refine Aq fun f d=> ?_
 refine imp (Av (Us d)) ?_
 refine imp Ag ?_
 refine As (fun _=> ?_) (fun _=> ?_)
 ·refine Aq fun g e=> ?_
  refine imp (Av (Ang e)) ?_
  refine imp Dn ?_
  exact Ct hR rfl rfl
 ·exact Ct hR rfl rfl
theorem U7 {n:Nat} {a:TP} {b:TP} {c:TP} {t:lS} (h:Py n a b c=some t):Cj pg KK.gl 309 [AV.agg [Aa a.X,Aa a.Y],AV.agg [Aa b.X,Aa b.Y],AV.agg [Aa c.X,Aa c.Y]] ((Ae t)):=
 A1 (by first|rfl|simp [Ap,clean,Aj,En.Cs]) (by first|rfl|simp [Ap,clean,Aj,En.Cs]) (x4 a.X a.Y b.X b.Y c.X c.Y _ (Afd n a b c (B5 ((Ae t))) (fun r e u m h=>by rw [e];exact h) h))
theorem pA (n:Nat) (g:List TP) (h Em e d f i:Int) {t:(Int×Int)⊕Pf} (R:AV→Mem→Prop) (N0:St→Prop) (hR:∀r:Pf,t=(.inr r)→∀u m,B5 ((Aa r)) u m→R u m) (hN0:∀y:Int×Int,t=(.inl y)→∀s':St,Bb KK 65 0 s' (Rj (Ai TP.E g) h y.1 Em y.2 e d [])→N0 s'):Ja n g h Em e d f i=some t→Yt (Ai TP.E g) h f Em i e d [] R N0:=by
 unfold Ja Yt
 refine As (fun _=> ?_) (fun _=> ?_)
 ·refine Aq fun a j=> ?_
  refine imp (Cu (show _=some ((AV.B6 [Aa a.X,Aa a.Y] 0),[]) from (Bo (E:=TP.E) rfl j))) ?_
  refine imp (Cu (show _=some ((AV.agg [Aa a.X,Aa a.Y]),[]) from rfl)) ?_
  refine imp Bw ?_
  iterate 2 refine imp Ag ?_
  refine Aq fun c k=> ?_
  refine imp (Ix (Oy k)) ?_
  refine imp Bw ?_
  iterate 2 refine imp Ag ?_
  refine imp (Bz (sz:=2) Bf Bf rfl rfl (cs:=[Aa (0),Aa (0)]) (cs':=[Aa a.X,Aa a.Y]) (ty:=51) (by first|rfl|(rw [Dw (by first|rfl|simp [Dx]|simp [A3])];first|rfl|(simp (disch:=first|decide|assumption) only [lk]))) rfl rfl) ?_
  refine imp (Bz (sz:=2) Bf Bf rfl rfl (cs:=[Aa (0),Aa (0)]) (cs':=[Aa c.X,Aa c.Y]) (ty:=51) (by first|rfl|(rw [Dw (by first|rfl|simp [Dx]|simp [A3])];first|rfl|(simp (disch:=first|decide|assumption) only [lk]))) rfl rfl) ?_
  refine imp (Dd Bf) ?_
  refine iq (AV.agg [Aa a.X,Aa a.Y]) (Dz (b:=⟨[Aa a.X,Aa a.Y],51⟩) B8 rfl) ?_
  refine imp Bw ?_
  iterate 2 refine imp Ag ?_
  refine iq (AV.agg [Aa c.X,Aa c.Y]) (Dz (b:=⟨[Aa c.X,Aa c.Y],51⟩) B8 rfl) ?_
  refine imp Bw ?_
  iterate 2 refine imp Ag ?_
  refine iq (AV.agg [Aa e,Aa d]) (Dz (b:=⟨[Aa e,Aa d],51⟩) B8 rfl) ?_
  refine imp Bw ?_
  iterate 2 refine imp Ag ?_
  refine Aq fun p l=> ?_
  refine imp (Av (U7 l)) ?_
  refine imp Dn ?_
  refine As (fun _=> ?_) (fun _=> ?_)
  ·exact Ct hR rfl rfl
  ·refine iq (Aa a.Y) (Cm (b:=⟨[Aa a.X,Aa a.Y],51⟩) B8 rfl) ?_
   refine imp Ag ?_
   refine iq (Aa d) (Cm (b:=⟨[Aa e,Aa d],51⟩) B8 rfl) ?_
   refine imp Ag ?_
   refine iq (Aa c.Y) (Cm (b:=⟨[Aa c.X,Aa c.Y],51⟩) B8 rfl) ?_
   refine imp Ag ?_
   refine iq (Aa d) (Cm (b:=⟨[Aa e,Aa d],51⟩) B8 rfl) ?_
   refine imp Ag ?_
   refine iq (Ae (!((decide (a.Y>d))==(decide (c.Y>d))))) Bf ?_
   refine imp Dn ?_
   refine As (fun _=> ?_) (fun _=> ?_)
   ·refine iq (AV.agg [Aa a.X,Aa a.Y]) (Dz (b:=⟨[Aa a.X,Aa a.Y],51⟩) B8 rfl) ?_
    refine imp Bw ?_
    iterate 2 refine imp Ag ?_
    refine iq (AV.agg [Aa c.X,Aa c.Y]) (Dz (b:=⟨[Aa c.X,Aa c.Y],51⟩) B8 rfl) ?_
    refine imp Bw ?_
    iterate 2 refine imp Ag ?_
    refine iq (AV.agg [Aa e,Aa d]) (Dz (b:=⟨[Aa e,Aa d],51⟩) B8 rfl) ?_
    refine imp Bw ?_
    iterate 2 refine imp Ag ?_
    refine Aq fun q o=> ?_
    refine imp (Av (Us o)) ?_
    refine imp Ag ?_
    refine iq (Aa c.Y) (Cm (b:=⟨[Aa c.X,Aa c.Y],51⟩) B8 rfl) ?_
    refine imp Ag ?_
    refine iq (Aa a.Y) (Cm (b:=⟨[Aa a.X,Aa a.Y],51⟩) B8 rfl) ?_
    refine imp Ag ?_
    refine As (fun _=> ?_) (fun _=> ?_)
    ·refine As (fun _=> ?_) (fun _=> ?_)
     ·refine iq (Aa (IntKind.wrap .i64 (0-f))) Bf ?_
      refine imp Ag ?_
      exact fun hg=>hN0 _ (Option.some.inj hg).symm _ (Ax [(0,0)] rfl rfl rfl (Ah (An (E:=TP.E) _ false) (oR (oR (oR (oR (oR A2)))))) (A0 (Ba (cs:=[Aa e,Aa d]) (ty:=51) rfl (show Ao _ 0=_ from B8)) Ay))
     ·refine iq (Aa c.Y) (Cm (b:=⟨[Aa c.X,Aa c.Y],51⟩) B8 rfl) ?_
      refine imp Ag ?_
      refine iq (Aa a.Y) (Cm (b:=⟨[Aa a.X,Aa a.Y],51⟩) B8 rfl) ?_
      refine imp Ag ?_
      refine As (fun _=> ?_) (fun _=> ?_)
      ·refine As (fun _=> ?_) (fun _=> ?_)
       ·refine iq (Aa (IntKind.wrap .i64 (0-f))) Bf ?_
        refine imp Ag ?_
        exact fun hg=>hN0 _ (Option.some.inj hg).symm _ (Ax [(0,0)] rfl rfl rfl (Ah (An (E:=TP.E) _ false) (oR (oR (oR (oR (oR A2)))))) (A0 (Ba (cs:=[Aa e,Aa d]) (ty:=51) rfl (show Ao _ 0=_ from B8)) Ay))
       ·exact fun hg=>hN0 _ (Option.some.inj hg).symm _ (Ax [(0,0)] rfl rfl rfl (Ah (An (E:=TP.E) _ false) (oR (oR (oR (oR (oR A2)))))) (A0 (Ba (cs:=[Aa e,Aa d]) (ty:=51) rfl (show Ao _ 0=_ from B8)) Ay))
      ·exact fun hg=>hN0 _ (Option.some.inj hg).symm _ (Ax [(0,0)] rfl rfl rfl (Ah (An (E:=TP.E) _ false) (oR (oR (oR (oR (oR A2)))))) (A0 (Ba (cs:=[Aa e,Aa d]) (ty:=51) rfl (show Ao _ 0=_ from B8)) Ay))
    ·refine iq (Aa c.Y) (Cm (b:=⟨[Aa c.X,Aa c.Y],51⟩) B8 rfl) ?_
     refine imp Ag ?_
     refine iq (Aa a.Y) (Cm (b:=⟨[Aa a.X,Aa a.Y],51⟩) B8 rfl) ?_
     refine imp Ag ?_
     refine As (fun _=> ?_) (fun _=> ?_)
     ·refine As (fun _=> ?_) (fun _=> ?_)
      ·refine iq (Aa (IntKind.wrap .i64 (0-f))) Bf ?_
       refine imp Ag ?_
       exact fun hg=>hN0 _ (Option.some.inj hg).symm _ (Ax [(0,0)] rfl rfl rfl (Ah (An (E:=TP.E) _ false) (oR (oR (oR (oR (oR A2)))))) (A0 (Ba (cs:=[Aa e,Aa d]) (ty:=51) rfl (show Ao _ 0=_ from B8)) Ay))
      ·exact fun hg=>hN0 _ (Option.some.inj hg).symm _ (Ax [(0,0)] rfl rfl rfl (Ah (An (E:=TP.E) _ false) (oR (oR (oR (oR (oR A2)))))) (A0 (Ba (cs:=[Aa e,Aa d]) (ty:=51) rfl (show Ao _ 0=_ from B8)) Ay))
     ·exact fun hg=>hN0 _ (Option.some.inj hg).symm _ (Ax [(0,0)] rfl rfl rfl (Ah (An (E:=TP.E) _ false) (oR (oR (oR (oR (oR A2)))))) (A0 (Ba (cs:=[Aa e,Aa d]) (ty:=51) rfl (show Ao _ 0=_ from B8)) Ay))
   ·exact fun hg=>hN0 _ (Option.some.inj hg).symm _ (Ax [(0,0)] rfl rfl rfl (Ah (An (E:=TP.E) _ false) (oR (oR (oR (oR (oR A2)))))) (A0 (Ba (cs:=[Aa e,Aa d]) (ty:=51) rfl (show Ao _ 0=_ from B8)) Ay))
 ·exact Ct hR rfl rfl
theorem sE (n:Nat) (a:List TP) (b Em c d:Int) {t:Pf} (R:AV→Mem→Prop) (hR:∀r:Pf,t=r→∀u m,B5 ((Aa r)) u m→R u m) (k:Nat) (x:Int×Int) (hx:A7 (fun y:Int×Int=>Ja n a b Em c d y.1 y.2) k x=some t) {s:St} (hw:Bb KK 65 0 s (Rj (Ai TP.E a) b x.1 Em x.2 c d [])):Bu pg KK 65 0 (.loop Yu) s (bS R):=
 Ajq R (σ:=Nat×(Int×Int)) (fun z=>A7 (fun y:Int×Int=>Ja n a b Em c d y.1 y.2) z.1 z.2=some t) (fun z=>(Ai TP.E a)) (fun z=>b) (fun z=>z.2.1) (fun z=>Em) (fun z=>z.2.2) (fun z=>c) (fun z=>d) (fun z=>[]) (fun z=>z.1) (by
  rintro ⟨k,y⟩ h
  cases k with
  |zero=>exact (Bi h).elim
  |succ k=>
   obtain ⟨u,f,g,i⟩:=Bh h
   exact pA n a b Em c d y.1 y.2 R _ (fun r e=>hR r (i _ e).symm) (fun y' e s' hw=>⟨(k,y'),g _ e,Nat.lt_succ_self k,hw⟩) f) (k,x) hx hw
theorem Ad8 (n:Nat) (b:List TP) (a:TP) {t:Pf} (R:AV→Mem→Prop) (hR:∀r:Pf,t=r→∀u m,B5 ((Aa r)) u m→R u m):j0 n b a=some t→Af7 (Ai TP.E b) a.X a.Y R:=by
 unfold j0 Af7
 refine iq (Aa (b.length:Int)) rfl ?_
 refine imp Ag ?_
 exact fun hg=>sE n b (0) (b.length:Int) a.X a.Y R hR n _ hg (Ax [(0,0)] rfl rfl rfl (Ah (An (E:=TP.E) _ false) (oR (oR (oR (oR (oR A2)))))) (A0 (Ba (cs:=[Aa a.X,Aa a.Y]) (ty:=51) rfl (show Ao _ 0=_ from B8)) Ay))
theorem Aia {n:Nat} {b:List TP} {a:TP} {t:Pf} (h:j0 n b a=some t):Cj pg KK.gl 253 [Ai TP.E b,AV.agg [Aa a.X,Aa a.Y]] ((Aa t)):=
 A1 (by first|rfl|simp [Ap,clean,Aj,En.Cs]) (by first|rfl|simp [Ap,clean,Aj,En.Cs]) (Aau (Ai TP.E b) a.X a.Y _ (Ad8 n b a (B5 ((Aa t))) (fun r e u m h=>by rw [e];exact h) h))
theorem Abf (n:Nat) (a:Al) (b:TP) (c:Int) {t:lC} (R:AV→Mem→Prop) (hR:∀r:lC,t=r→∀u m,B5 ((Ae r)) u m→R u m):uV n a b c=some t→Ahd (Ai TP.E a.D0) a.Hw a.D4 b.X b.Y c R:=by
 unfold uV Ahd
 refine imp (Dd rfl) ?_
 refine As (fun _=> ?_) (fun _=> ?_)
 ·refine As (fun _=> ?_) (fun _=> ?_)
  ·refine Aq fun e d=> ?_
   refine imp (Av (Aia d)) ?_
   refine imp Ag ?_
   exact Ct hR rfl rfl
  ·exact Ct hR rfl rfl
 ·exact Ct hR rfl rfl
theorem An1 {n:Nat} {a:Al} {b:TP} {c:Int} {t:lC} (h:uV n a b c=some t):Cj pg KK.gl 201 [AV.agg [Ai TP.E a.D0,Aa a.Hw,Aa a.D4],AV.agg [Aa b.X,Aa b.Y],Aa c] ((Ae t)):=
 A1 (by first|rfl|simp [Ap,clean,Aj,En.Cs]) (by first|rfl|simp [Ap,clean,Aj,En.Cs]) (Aaq (Ai TP.E a.D0) a.Hw a.D4 b.X b.Y c _ (Abf n a b c (B5 ((Ae t))) (fun r e u m h=>by rw [e];exact h) h))
theorem Ahb (n:Nat) (a:Al) (b c d:Int) {t:lW} (R:AV→Mem→Prop) (hR:∀r:lW,t=r→∀u m,B5 ((Ae r)) u m→R u m):sQ n a b c d=some t→Ace (Ai TP.E a.D0) a.Hw a.D4 (AV.B6 [Aa b,Aa c] 0) (AV.B6 [Aa d] 0) R:=by
 unfold sQ Ace
 refine imp (Dd rfl) ?_
 refine iq (AV.agg [Aa b,Aa c]) rfl ?_
 refine imp Bw ?_
 iterate 2 refine imp Ag ?_
 refine iq (Aa d) rfl ?_
 refine imp Ag ?_
 refine Aq fun f e=> ?_
 refine imp (Av (An1 e)) ?_
 refine imp Dn ?_
 exact Ct hR rfl rfl
theorem Am4 {n:Nat} {a:Al} {b:Int} {c:Int} {d:Int} {t:lW} (h:sQ n a b c d=some t):Cj pg KK.gl 200 [AV.agg [Ai TP.E a.D0,Aa a.Hw,Aa a.D4],AV.B6 [Aa b,Aa c] 0,AV.B6 [Aa d] 0] ((Ae t)):=
 A1 (by first|rfl|simp [Ap,clean,Aj,En.Cs]) (by first|rfl|simp [Ap,clean,Aj,En.Cs]) (uR (Ai TP.E a.D0) a.Hw a.D4 (AV.B6 [Aa b,Aa c] 0) (AV.B6 [Aa d] 0) _ (Ahb n a b c d (B5 ((Ae t))) (fun r e u m h=>by rw [e];exact h) h))
theorem pM (n:Nat) (b:List Al) (c d e f c7 g:Int) {t:(Int)⊕P6} (R:AV→Mem→Prop) (N0:St→Prop) (hR:∀r:P6,t=(.inr r)→∀u m,B5 ((Aa r)) u m→R u m) (hN0:∀y:Int,t=(.inl y)→∀s':St,Bb KK 19 0 s' (Rk (Ai Al.E b) (AV.fn 200 [AV.B6 [Aa c,Aa d] 0,AV.B6 [Aa e] 0]) f c7 y [])→N0 s'):J1 n b c d e f c7 g=some t→aK (Ai Al.E b) (AV.fn 200 [AV.B6 [Aa c,Aa d] 0,AV.B6 [Aa e] 0]) f c7 g [] R N0:=by
 unfold J1 aK
 refine As (fun _=> ?_) (fun _=> ?_)
 ·refine Aq fun a h=> ?_
  refine iq (AV.B6 [Ai TP.E a.D0,Aa a.Hw,Aa a.D4] 0) (Bo (E:=Al.E) rfl h) ?_
  refine iq (AV.agg [Ai TP.E a.D0,Aa a.Hw,Aa a.D4]) rfl ?_
  refine imp Vb ?_
  iterate 2 refine imp Ag ?_
  refine Aq fun j i=> ?_
  refine imp Iy ?_
  refine imp (Q3 rfl) ?_
  refine imp (Gh (Am4 i)) ?_
  refine imp Dn ?_
  refine As (fun _=> ?_) (fun _=> ?_)
  ·exact Ct hR rfl rfl
  ·exact fun hg=>hN0 _ (Option.some.inj hg).symm _ (Ax [] rfl rfl rfl (Ah (An (E:=Al.E) _ false) (Ah (E0 (Fb _) (by simp [clean,Ap,Aj])) (oR (oR (oR A2))))) Ay)
 ·exact Ct hR rfl rfl
theorem tK (n:Nat) (a:List Al) (b c d f c7:Int) {t:P6} (R:AV→Mem→Prop) (hR:∀r:P6,t=r→∀u m,B5 ((Aa r)) u m→R u m) (k:Nat) (x:Int) (hx:A7 (fun y:Int=>J1 n a b c d f c7 y) k x=some t) {s:St} (hw:Bb KK 19 0 s (Rk (Ai Al.E a) (AV.fn 200 [AV.B6 [Aa b,Aa c] 0,AV.B6 [Aa d] 0]) f c7 x [])):Bu pg KK 19 0 (.loop Zp) s (Zj R):=
 Aiz R (σ:=Nat×(Int)) (fun z=>A7 (fun y:Int=>J1 n a b c d f c7 y) z.1 z.2=some t) (fun z=>(Ai Al.E a)) (fun z=>(AV.fn 200 [AV.B6 [Aa b,Aa c] 0,AV.B6 [Aa d] 0])) (fun z=>f) (fun z=>c7) (fun z=>z.2) (fun z=>[]) (fun z=>z.1) (by
  rintro ⟨k,y⟩ h
  cases k with
  |zero=>exact (Bi h).elim
  |succ k=>
   obtain ⟨u,g,i,j⟩:=Bh h
   exact pM n a b c d f c7 y R _ (fun r e=>hR r (j _ e).symm) (fun y' e s' hw=>⟨(k,y'),i _ e,Nat.lt_succ_self k,hw⟩) g) (k,x) hx hw
theorem Af2 (n:Nat) (a:List Al) (b c d:Int) {t:P6} (R:AV→Mem→Prop) (hR:∀r:P6,t=r→∀u m,B5 ((Aa r)) u m→R u m):vE n a b c d=some t→Ag5 (Ai Al.E a) (AV.fn 200 [AV.B6 [Aa b,Aa c] 0,AV.B6 [Aa d] 0]) R:=by
 unfold vE Ag5
 refine iq (Aa (a.length:Int)) rfl ?_
 refine imp Ag ?_
 exact fun hg=>tK n a b c d (0) (a.length:Int) R hR n _ hg (Ax [] rfl rfl rfl (Ah (An (E:=Al.E) _ false) (Ah (E0 (Fb _) (by simp [clean,Ap,Aj])) (oR (oR (oR A2))))) Ay)
theorem Anb {n:Nat} {a:List Al} {b:Int} {c:Int} {d:Int} {t:P6} (h:vE n a b c d=some t):Cj pg KK.gl 252 [Ai Al.E a,AV.fn 200 [AV.B6 [Aa b,Aa c] 0,AV.B6 [Aa d] 0]] ((Aa t)):=
 A1 (by first|rfl|simp [Ap,clean,Aj,En.Cs]) (by first|rfl|simp [Ap,clean,Aj,En.Cs]) (yZ (Ai Al.E a) (AV.fn 200 [AV.B6 [Aa b,Aa c] 0,AV.B6 [Aa d] 0]) _ (Af2 n a b c d (B5 ((Aa t))) (fun r e u m h=>by rw [e];exact h) h))
theorem Abz (n:Nat) (a:List Al) (b c d:Int) {t:mJ} (R:AV→Mem→Prop) (hR:∀r:mJ,t=r→∀u m,B5 ((Ae r)) u m→R u m):qX n a b c d=some t→Adl (Ai Al.E a) (AV.fn 200 [AV.B6 [Aa b,Aa c] 0,AV.B6 [Aa d] 0]) R:=by
 unfold qX Adl
 refine Aq fun f e=> ?_
 refine imp (Av (Anb e)) ?_
 refine imp Ag ?_
 exact Ct hR rfl rfl
theorem Aly {n:Nat} {a:List Al} {b:Int} {c:Int} {d:Int} {t:mJ} (h:qX n a b c d=some t):Cj pg KK.gl 199 [Ai Al.E a,AV.fn 200 [AV.B6 [Aa b,Aa c] 0,AV.B6 [Aa d] 0]] ((Ae t)):=
 A1 (by first|rfl|simp [Ap,clean,Aj,En.Cs]) (by first|rfl|simp [Ap,clean,Aj,En.Cs]) (yS (Ai Al.E a) (AV.fn 200 [AV.B6 [Aa b,Aa c] 0,AV.B6 [Aa d] 0]) _ (Abz n a b c d (B5 ((Ae t))) (fun r e u m h=>by rw [e];exact h) h))
theorem Ac0 (n:Nat) (a:Au) (b c d:Int) {t:oP} (R:AV→Mem→Prop) (hR:∀r:oP,t=r→∀u m,B5 ((Ae r)) u m→R u m):iA n a b c d=some t→Afq a.Name (Ai Al.E a.Room) (AV.B6 [Aa b,Aa c] 0) (AV.B6 [Aa d] 0) R:=by
 unfold iA Afq
 refine imp (Dd rfl) ?_
 refine Aq fun f e=> ?_
 refine imp (Av (Aly e)) ?_
 refine imp Dn ?_
 exact Ct hR rfl rfl
theorem Ank {n:Nat} {a:Au} {b:Int} {c:Int} {d:Int} {t:oP} (h:iA n a b c d=some t):Cj pg KK.gl 198 [AV.agg [Bq a.Name,Ai Al.E a.Room],AV.B6 [Aa b,Aa c] 0,AV.B6 [Aa d] 0] ((Ae t)):=
 A1 (by first|rfl|simp [Ap,clean,Aj,En.Cs]) (by first|rfl|simp [Ap,clean,Aj,En.Cs]) (vG a.Name (Ai Al.E a.Room) (AV.B6 [Aa b,Aa c] 0) (AV.B6 [Aa d] 0) _ (Ac0 n a b c d (B5 ((Ae t))) (fun r e u m h=>by rw [e];exact h) h))
theorem qI (n:Nat) (b:List Au) (c d e f c7 g:Int) {t:(Int)⊕G5} (R:AV→Mem→Prop) (N0:St→Prop) (hR:∀r:G5,t=(.inr r)→∀u m,B5 ((Aa r)) u m→R u m) (hN0:∀y:Int,t=(.inl y)→∀s':St,Bb KK 19 0 s' (L0 (Ai Au.E b) (AV.fn 198 [AV.B6 [Aa c,Aa d] 0,AV.B6 [Aa e] 0]) f c7 y [])→N0 s'):Jv n b c d e f c7 g=some t→R8 (Ai Au.E b) (AV.fn 198 [AV.B6 [Aa c,Aa d] 0,AV.B6 [Aa e] 0]) f c7 g [] R N0:=by
 unfold Jv R8
 refine As (fun _=> ?_) (fun _=> ?_)
 ·refine Aq fun a h=> ?_
  refine iq (AV.B6 [Bq a.Name,Ai Al.E a.Room] 0) (Bo (E:=Au.E) rfl h) ?_
  refine iq (AV.agg [Bq a.Name,Ai Al.E a.Room]) rfl ?_
  refine imp Bw ?_
  refine imp C1 ?_
  refine Aq fun j i=> ?_
  refine imp Iy ?_
  refine imp (Q3 rfl) ?_
  refine imp (Gh (Ank i)) ?_
  refine imp Dn ?_
  refine As (fun _=> ?_) (fun _=> ?_)
  ·exact Ct hR rfl rfl
  ·exact fun hg=>hN0 _ (Option.some.inj hg).symm _ (Ax [] rfl rfl rfl (Ah (An (E:=Au.E) _ false) (Ah (E0 (Fb _) (by simp [clean,Ap,Aj])) (oR (oR (oR A2))))) Ay)
 ·exact Ct hR rfl rfl
theorem qD (n:Nat) (a:List Au) (b c d f c7:Int) {t:G5} (R:AV→Mem→Prop) (hR:∀r:G5,t=r→∀u m,B5 ((Aa r)) u m→R u m) (k:Nat) (x:Int) (hx:A7 (fun y:Int=>Jv n a b c d f c7 y) k x=some t) {s:St} (hw:Bb KK 19 0 s (L0 (Ai Au.E a) (AV.fn 198 [AV.B6 [Aa b,Aa c] 0,AV.B6 [Aa d] 0]) f c7 x [])):Bu pg KK 19 0 (.loop Ty) s (Vu R):=
 xW R (σ:=Nat×(Int)) (fun z=>A7 (fun y:Int=>Jv n a b c d f c7 y) z.1 z.2=some t) (fun z=>(Ai Au.E a)) (fun z=>(AV.fn 198 [AV.B6 [Aa b,Aa c] 0,AV.B6 [Aa d] 0])) (fun z=>f) (fun z=>c7) (fun z=>z.2) (fun z=>[]) (fun z=>z.1) (by
  rintro ⟨k,y⟩ h
  cases k with
  |zero=>exact (Bi h).elim
  |succ k=>
   obtain ⟨u,g,i,j⟩:=Bh h
   exact qI n a b c d f c7 y R _ (fun r e=>hR r (j _ e).symm) (fun y' e s' hw=>⟨(k,y'),i _ e,Nat.lt_succ_self k,hw⟩) g) (k,x) hx hw
theorem Ad7 (n:Nat) (a:List Au) (b c d:Int) {t:G5} (R:AV→Mem→Prop) (hR:∀r:G5,t=r→∀u m,B5 ((Aa r)) u m→R u m):zJ n a b c d=some t→tS (Ai Au.E a) (AV.fn 198 [AV.B6 [Aa b,Aa c] 0,AV.B6 [Aa d] 0]) R:=by
 unfold zJ tS
 refine iq (Aa (a.length:Int)) rfl ?_
 refine imp Ag ?_
 exact fun hg=>qD n a b c d (0) (a.length:Int) R hR n _ hg (Ax [] rfl rfl rfl (Ah (An (E:=Au.E) _ false) (Ah (E0 (Fb _) (by simp [clean,Ap,Aj])) (oR (oR (oR A2))))) Ay)
theorem Amd {n:Nat} {a:List Au} {b:Int} {c:Int} {d:Int} {t:G5} (h:zJ n a b c d=some t):Cj pg KK.gl 197 [Ai Au.E a,AV.fn 198 [AV.B6 [Aa b,Aa c] 0,AV.B6 [Aa d] 0]] ((Aa t)):=
 A1 (by first|rfl|simp [Ap,clean,Aj,En.Cs]) (by first|rfl|simp [Ap,clean,Aj,En.Cs]) (dN (Ai Au.E a) (AV.fn 198 [AV.B6 [Aa b,Aa c] 0,AV.B6 [Aa d] 0]) _ (Ad7 n a b c d (B5 ((Aa t))) (fun r e u m h=>by rw [e];exact h) h))
theorem Ab2 (n:Nat) (c:List Au) (a:TP) (b:Int) {t:mF} (R:AV→Mem→Prop) (hR:∀r:mF,t=r→∀u m,B5 ((Aa r)) u m→R u m):sD n c a b=some t→Adr (Ai Au.E c) a.X a.Y b R:=by
 unfold sD Adr
 refine Aq fun e d=> ?_
 refine imp (E3 (E9 (Ca (Ob (E:=Au.E) _ _ false) (Ca (mT _ _ (Ca (Ur _ (ty:=51) (us:=[Aa a.X,Aa a.Y]) B8 (Ca (Li _ _) (Ca (Li _ _) D1))) (Ca (Ur _ (ty:=3) (us:=[Aa b]) B8 (Ca (Li _ _) D1)) D1))) D1)) (Amd d) rfl)) ?_
 refine imp Ag ?_
 exact Ct hR rfl rfl
theorem Amr {n:Nat} {b:List Au} {a:TP} {c:Int} {t:mF} (h:sD n b a c=some t):Cj pg KK.gl 120 [Ai Au.E b,AV.agg [Aa a.X,Aa a.Y],Aa c] ((Aa t)):=
 A1 (by first|rfl|simp [Ap,clean,Aj,En.Cs]) (by first|rfl|simp [Ap,clean,Aj,En.Cs]) (wH (Ai Au.E b) a.X a.Y c _ (Ab2 n b a c (B5 ((Aa t))) (fun r e u m h=>by rw [e];exact h) h))
theorem Aeg (n:Nat) (a:ByteArray) {t:nT} (R:AV→Mem→Prop) (hR:∀r:nT,t=r→∀u m,B5 ((Ae r)) u m→R u m):aE n a=some t→Ab8 a R:=by
 unfold aE Ab8
 refine Aq fun c b=> ?_
 refine imp (Av (vH b)) ?_
 refine imp Dn ?_
 exact Ct hR rfl rfl
theorem Ano {n:Nat} {a:ByteArray} {t:nT} (h:aE n a=some t):Cj pg KK.gl 192 [Bq a] ((Ae t)):=
 A1 (by first|rfl|simp [Ap,clean,Aj,En.Cs]) (by first|rfl|simp [Ap,clean,Aj,En.Cs]) (u4 a _ (Aeg n a (B5 ((Ae t))) (fun r e u m h=>by rw [e];exact h) h))
theorem Ad6 (n:Nat) (a b c d:TP) {t:nZ} (R:AV→Mem→Prop) (hR:∀r:nZ,t=r→∀u m,B5 ((Ae r)) u m→R u m):iG n a b c d=some t→Abj a.X a.Y b.X b.Y c.X c.Y d.X d.Y R:=by
 unfold iG Abj
 refine Aq fun i e=> ?_
 refine imp (Av (Us e)) ?_
 refine imp Ag ?_
 refine Aq fun j f=> ?_
 refine imp (Av (Us f)) ?_
 refine imp Ag ?_
 refine As (fun _=> ?_) (fun _=> ?_)
 ·refine Aq fun k g=> ?_
  refine imp (Av (Us g)) ?_
  refine imp Ag ?_
  refine Aq fun l h=> ?_
  refine imp (Av (Us h)) ?_
  refine imp Ag ?_
  exact Ct hR rfl rfl
 ·exact Ct hR rfl rfl
theorem Ah0 {n:Nat} {a:TP} {b:TP} {c:TP} {d:TP} {t:nZ} (h:iG n a b c d=some t):Cj pg KK.gl 306 [AV.agg [Aa a.X,Aa a.Y],AV.agg [Aa b.X,Aa b.Y],AV.agg [Aa c.X,Aa c.Y],AV.agg [Aa d.X,Aa d.Y]] ((Ae t)):=
 A1 (by first|rfl|simp [Ap,clean,Aj,En.Cs]) (by first|rfl|simp [Ap,clean,Aj,En.Cs]) (uO a.X a.Y b.X b.Y c.X c.Y d.X d.Y _ (Ad6 n a b c d (B5 ((Ae t))) (fun r e u m h=>by rw [e];exact h) h))
theorem Afv (n:Nat) (a b c d:TP) {t:nN} (R:AV→Mem→Prop) (hR:∀r:nN,t=r→∀u m,B5 ((Ae r)) u m→R u m):rP n a b c d=some t→Ahf a.X a.Y b.X b.Y c.X c.Y d.X d.Y R:=by
 unfold rP Ahf
 refine Aq fun j e=> ?_
 refine imp (Av (Ah0 e)) ?_
 refine imp Dn ?_
 refine As (fun _=> ?_) (fun _=> ?_)
 ·exact Ct hR rfl rfl
 ·refine Aq fun k f=> ?_
  refine imp (Av (U7 f)) ?_
  refine imp Dn ?_
  refine As (fun _=> ?_) (fun _=> ?_)
  ·exact Ct hR rfl rfl
  ·refine Aq fun l g=> ?_
   refine imp (Av (U7 g)) ?_
   refine imp Dn ?_
   refine As (fun _=> ?_) (fun _=> ?_)
   ·exact Ct hR rfl rfl
   ·refine Aq fun o h=> ?_
    refine imp (Av (U7 h)) ?_
    refine imp Dn ?_
    refine As (fun _=> ?_) (fun _=> ?_)
    ·exact Ct hR rfl rfl
    ·refine Aq fun p i=> ?_
     refine imp (Av (U7 i)) ?_
     refine imp Dn ?_
     exact Ct hR rfl rfl
theorem Amm {n:Nat} {a:TP} {b:TP} {c:TP} {d:TP} {t:nN} (h:rP n a b c d=some t):Cj pg KK.gl 304 [AV.agg [Aa a.X,Aa a.Y],AV.agg [Aa b.X,Aa b.Y],AV.agg [Aa c.X,Aa c.Y],AV.agg [Aa d.X,Aa d.Y]] ((Ae t)):=
 A1 (by first|rfl|simp [Ap,clean,Aj,En.Cs]) (by first|rfl|simp [Ap,clean,Aj,En.Cs]) (zB a.X a.Y b.X b.Y c.X c.Y d.X d.Y _ (Afv n a b c d (B5 ((Ae t))) (fun r e u m h=>by rw [e];exact h) h))
theorem qF (n:Nat) (b:List TP) (c d e f:Int) {t:(Int×Int)⊕Pc} (R:AV→Mem→Prop) (N0:St→Prop) (hR:∀r:Pc,t=(.inr r)→∀u m,B5 ((Aa r)) u m→R u m) (hN0:∀y:Int×Int,t=(.inl y)→∀s':St,Bb KK 22 0 s' (Q5 (Ai TP.E b) c y.1 d y.2 [])→N0 s'):K8 n b c d e f=some t→Zd (Ai TP.E b) c e d f [] R N0:=by
 unfold K8 Zd
 refine As (fun _=> ?_) (fun _=> ?_)
 ·refine Aq fun a g=> ?_
  refine iq (AV.B6 [Aa a.X,Aa a.Y] 0) (Bo (E:=TP.E) rfl g) ?_
  refine iq (AV.agg [Aa a.X,Aa a.Y]) rfl ?_
  refine imp Bw ?_
  iterate 2 refine imp Ag ?_
  refine Aq fun j h=> ?_
  refine imp (Av (Oy h)) ?_
  refine imp Bw ?_
  iterate 2 refine imp Ag ?_
  refine Aq fun k i=> ?_
  refine imp (Av (Ahq i)) ?_
  refine imp Ag ?_
  exact fun hg=>hN0 _ (Option.some.inj hg).symm _ (Ax [] rfl rfl rfl (Ah (An (E:=TP.E) _ false) (oR (oR (oR (oR A2))))) Ay)
 ·exact Ct hR rfl rfl
theorem qC (n:Nat) (a:List TP) (b c:Int) {t:Pc} (R:AV→Mem→Prop) (hR:∀r:Pc,t=r→∀u m,B5 ((Aa r)) u m→R u m) (k:Nat) (x:Int×Int) (hx:A7 (fun y:Int×Int=>K8 n a b c y.1 y.2) k x=some t) {s:St} (hw:Bb KK 22 0 s (Q5 (Ai TP.E a) b x.1 c x.2 [])):Bu pg KK 22 0 (.loop bN) s (Ys R):=
 Akm R (σ:=Nat×(Int×Int)) (fun z=>A7 (fun y:Int×Int=>K8 n a b c y.1 y.2) z.1 z.2=some t) (fun z=>(Ai TP.E a)) (fun z=>b) (fun z=>z.2.1) (fun z=>c) (fun z=>z.2.2) (fun z=>[]) (fun z=>z.1) (by
  rintro ⟨k,y⟩ h
  cases k with
  |zero=>exact (Bi h).elim
  |succ k=>
   obtain ⟨u,d,f,g⟩:=Bh h
   exact qF n a b c y.1 y.2 R _ (fun r e=>hR r (g _ e).symm) (fun y' e s' hw=>⟨(k,y'),f _ e,Nat.lt_succ_self k,hw⟩) d) (k,x) hx hw
theorem Aft (n:Nat) (a:List TP) {t:Pc} (R:AV→Mem→Prop) (hR:∀r:Pc,t=r→∀u m,B5 ((Aa r)) u m→R u m):pK n a=some t→Agm (Ai TP.E a) R:=by
 unfold pK Agm
 refine iq (Aa (a.length:Int)) rfl ?_
 refine imp Ag ?_
 exact fun hg=>qC n a (0) (a.length:Int) R hR n _ hg (Ax [] rfl rfl rfl (Ah (An (E:=TP.E) _ false) (oR (oR (oR (oR A2))))) Ay)
theorem Amc {n:Nat} {a:List TP} {t:Pc} (h:pK n a=some t):Cj pg KK.gl 305 [Ai TP.E a] ((Aa t)):=
 A1 (by first|rfl|simp [Ap,clean,Aj,En.Cs]) (by first|rfl|simp [Ap,clean,Aj,En.Cs]) (Aaj (Ai TP.E a) _ (Aft n a (B5 ((Aa t))) (fun r e u m h=>by rw [e];exact h) h))
end Go.Proofs.YtmechmjjcgdpdaaGreatDoor
