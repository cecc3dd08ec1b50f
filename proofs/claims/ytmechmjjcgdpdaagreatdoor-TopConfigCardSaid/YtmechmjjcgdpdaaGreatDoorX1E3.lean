/- A part. -/
import Derived.Test.YtmechmjjcgdpdaaGreatDoorX1E2
set_option linter.unusedVariables false
set_option linter.unusedSimpArgs false
set_option maxRecDepth 100000
set_option maxHeartbeats 4000000
namespace Go.Proofs.YtmechmjjcgdpdaaGreatDoor
theorem dI (n:Nat) (b:List TP) (c c3 a d g:Int) {t:(Int)⊕((Int)⊕Gt)} (R:AV→Mem→Prop) (N0 N1:St→Prop) (hR:∀r:Gt,t=(.inr (.inr r))→∀u m,B5 ((Aa r)) u m→R u m) (hN0:∀y:Int,t=(.inr (.inl y))→∀s':St,Bb KK 84 0 s' (Mq (Ai TP.E b) c c3 d y [])→N0 s') (hN1:∀y:Int,t=(.inl y)→∀s':St,Bb KK 84 0 s' (Kj (Ai TP.E b) c c3 a y d a [])→N1 s'):F4 n b c c3 a d g=some t→Pw (Ai TP.E b) c c3 a g d a [] R N0 N1:=by
 unfold F4 Pw
 refine As (fun _=> ?_) (fun _=> ?_)
 ·refine Aq fun h i=> ?_
  refine iq (Aa h) (La i) ?_
  refine imp Ag ?_
  refine As (fun _=> ?_) (fun _=> ?_)
  ·refine Aq fun e j=> ?_
   refine iq (AV.B6 [Aa e.X,Aa e.Y] 0) (Bo (E:=TP.E) rfl j) ?_
   refine iq (AV.agg [Aa e.X,Aa e.Y]) rfl ?_
   refine imp Bw ?_
   iterate 2 refine imp Ag ?_
   refine Aq fun q k=> ?_
   refine imp (Av (Oy k)) ?_
   refine imp Bw ?_
   iterate 2 refine imp Ag ?_
   refine Aq fun f l=> ?_
   refine iq (AV.B6 [Aa f.X,Aa f.Y] 0) (Bo (E:=TP.E) rfl l) ?_
   refine iq (AV.agg [Aa f.X,Aa f.Y]) rfl ?_
   refine imp Bw ?_
   iterate 2 refine imp Ag ?_
   refine Aq fun s o=> ?_
   refine imp (Av (Oy o)) ?_
   refine imp Bw ?_
   iterate 2 refine imp Ag ?_
   refine Aq fun v p=> ?_
   refine imp (Av (Amm p)) ?_
   refine imp Dn ?_
   refine As (fun _=> ?_) (fun _=> ?_)
   ·exact Ct hR rfl rfl
   ·exact fun hg=>hN1 _ (Option.some.inj hg).symm _ (Ax [] rfl rfl rfl (Ah (An (E:=TP.E) _ false) (oR (oR (oR (oR (oR (oR A2))))))) Ay)
  ·exact fun hg=>hN1 _ (Option.some.inj hg).symm _ (Ax [] rfl rfl rfl (Ah (An (E:=TP.E) _ false) (oR (oR (oR (oR (oR (oR A2))))))) Ay)
 ·exact fun hg=>hN0 _ (Option.some.inj hg).symm _ (Ax [] rfl rfl rfl (Ah (An (E:=TP.E) _ false) (oR (oR (oR (oR A2))))) Ay)
theorem eY (n:Nat) (b:List TP) (c c3 a d:Int) {t:((Int)⊕Gt)} (R:AV→Mem→Prop) (N0:St→Prop) (hR:∀r:Gt,t=(.inr r)→∀u m,B5 ((Aa r)) u m→R u m) (hN0:∀y:Int,t=(.inl y)→∀s':St,Bb KK 84 0 s' (Mq (Ai TP.E b) c c3 d y [])→N0 s') (k:Nat) (x:Int) (hx:A7 (fun y:Int=>F4 n b c c3 a d y) k x=some t) {s:St} (hw:Bb KK 84 0 s (Kj (Ai TP.E b) c c3 a x d a [])):Bu pg KK 84 0 (.loop P5) s (P3 R N0):=
 tU R N0 (σ:=Nat×(Int)) (fun z=>A7 (fun y:Int=>F4 n b c c3 a d y) z.1 z.2=some t) (fun z=>(Ai TP.E b)) (fun z=>c) (fun z=>c3) (fun z=>a) (fun z=>z.2) (fun z=>d) (fun z=>a) (fun z=>[]) (fun z=>z.1) (by
  rintro ⟨k,y⟩ h
  cases k with
  |zero=>exact (Bi h).elim
  |succ k=>
   obtain ⟨u,g,i,f⟩:=Bh h
   exact dI n b c c3 a d y R N0 _ (fun r e=>hR r (f _ e).symm) (fun y' e=>hN0 y' (f _ e).symm) (fun y' e s' hw=>⟨(k,y'),i _ e,Nat.lt_succ_self k,hw⟩) g) (k,x) hx hw
theorem tR (n:Nat) (a:List TP) (b c3 c f:Int) {t:(Int)⊕Gt} (R:AV→Mem→Prop) (N0:St→Prop) (hR:∀r:Gt,t=(.inr r)→∀u m,B5 ((Aa r)) u m→R u m) (hN0:∀y:Int,t=(.inl y)→∀s':St,Bb KK 84 0 s' (Mq (Ai TP.E a) b c3 c y [])→N0 s'):Jy n a b c3 c f=some t→Zg (Ai TP.E a) b c3 c f [] R N0:=by
 unfold Jy Zg
 refine As (fun _=> ?_) (fun _=> ?_)
 ·refine Aq fun d g=> ?_
  refine iq (AV.B6 [Aa d.X,Aa d.Y] 0) (Bo (E:=TP.E) rfl g) ?_
  refine iq (AV.agg [Aa d.X,Aa d.Y]) rfl ?_
  refine imp Bw ?_
  iterate 2 refine imp Ag ?_
  refine Aq fun p h=> ?_
  refine imp (Av (Oy h)) ?_
  refine imp Bw ?_
  iterate 2 refine imp Ag ?_
  refine Aq fun i j=> ?_
  refine iq (Aa i) (La j) ?_
  refine imp Ag ?_
  refine Aq fun e k=> ?_
  refine iq (AV.B6 [Aa e.X,Aa e.Y] 0) (Bo (E:=TP.E) rfl k) ?_
  refine iq (AV.agg [Aa e.X,Aa e.Y]) rfl ?_
  refine imp Bw ?_
  iterate 2 refine imp Ag ?_
  refine Aq fun q l=> ?_
  refine imp (Av (Us l)) ?_
  refine imp Ag ?_
  refine As (fun _=> ?_) (fun _=> ?_)
  ·exact Ct hR rfl rfl
  ·exact fun hg=>eY n a b c3 f c R N0 hR hN0 n _ hg (Ax [] rfl rfl rfl (Ah (An (E:=TP.E) _ false) (oR (oR (oR (oR (oR (oR A2))))))) Ay)
 ·refine Aq fun s o=> ?_
  refine imp (Av (Amc o)) ?_
  refine imp Ag ?_
  refine As (fun _=> ?_) (fun _=> ?_)
  ·exact Ct hR rfl rfl
  ·exact Ct hR rfl rfl
theorem tA (n:Nat) (a:List TP) (b c3 c:Int) {t:Gt} (R:AV→Mem→Prop) (hR:∀r:Gt,t=r→∀u m,B5 ((Aa r)) u m→R u m) (k:Nat) (x:Int) (hx:A7 (fun y:Int=>Jy n a b c3 c y) k x=some t) {s:St} (hw:Bb KK 84 0 s (Mq (Ai TP.E a) b c3 c x [])):Bu pg KK 84 0 (.loop Q4) s (bG R):=
 Ail R (σ:=Nat×(Int)) (fun z=>A7 (fun y:Int=>Jy n a b c3 c y) z.1 z.2=some t) (fun z=>(Ai TP.E a)) (fun z=>b) (fun z=>c3) (fun z=>c) (fun z=>z.2) (fun z=>[]) (fun z=>z.1) (by
  rintro ⟨k,y⟩ h
  cases k with
  |zero=>exact (Bi h).elim
  |succ k=>
   obtain ⟨u,d,f,g⟩:=Bh h
   exact tR n a b c3 c y R _ (fun r e=>hR r (g _ e).symm) (fun y' e s' hw=>⟨(k,y'),f _ e,Nat.lt_succ_self k,hw⟩) d) (k,x) hx hw
theorem o8 (n:Nat) (a:List TP) (b c3 d:Int) {t:(Int)⊕Gt} (R:AV→Mem→Prop) (N0:St→Prop) (hR:∀r:Gt,t=(.inr r)→∀u m,B5 ((Aa r)) u m→R u m) (hN0:∀y:Int,t=(.inl y)→∀s':St,Bb KK 84 0 s' (Rs (Ai TP.E a) b c3 (Ai TP.E a) c3 y [])→N0 s'):Jh n a b c3 d=some t→Zx (Ai TP.E a) b c3 (Ai TP.E a) c3 d [] R N0:=by
 unfold Jh Zx
 refine As (fun _=> ?_) (fun _=> ?_)
 ·refine Aq fun c f=> ?_
  refine iq (AV.B6 [Aa c.X,Aa c.Y] 0) (Bo (E:=TP.E) rfl f) ?_
  refine iq (AV.agg [Aa c.X,Aa c.Y]) rfl ?_
  refine imp Bw ?_
  iterate 2 refine imp Ag ?_
  refine Aq fun h g=> ?_
  refine imp (Av (j4 g)) ?_
  refine imp Ag ?_
  refine As (fun _=> ?_) (fun _=> ?_)
  ·exact Ct hR rfl rfl
  ·exact fun hg=>hN0 _ (Option.some.inj hg).symm _ (Ax [] rfl rfl rfl (Ah (An (E:=TP.E) _ false) (oR (oR (Ah (An (E:=TP.E) _ false) (oR (oR A2)))))) Ay)
 ·refine iq (Aa (a.length:Int)) rfl ?_
  refine imp Ag ?_
  refine Hm fun i e0=> ?_
  exact fun hg=>tA n a b c3 (a.length:Int) R (fun r e=>hR r (e0.trans (congrArg Sum.inr e))) n _ hg (Ax [] rfl rfl rfl (Ah (An (E:=TP.E) _ false) (oR (oR (oR (oR A2))))) Ay)
theorem rF (n:Nat) (a:List TP) (b c3:Int) {t:Gt} (R:AV→Mem→Prop) (hR:∀r:Gt,t=r→∀u m,B5 ((Aa r)) u m→R u m) (k:Nat) (x:Int) (hx:A7 (fun y:Int=>Jh n a b c3 y) k x=some t) {s:St} (hw:Bb KK 84 0 s (Rs (Ai TP.E a) b c3 (Ai TP.E a) c3 x [])):Bu pg KK 84 0 (.loop Zk) s (Z0 R):=
 Ako R (σ:=Nat×(Int)) (fun z=>A7 (fun y:Int=>Jh n a b c3 y) z.1 z.2=some t) (fun z=>(Ai TP.E a)) (fun z=>b) (fun z=>c3) (fun z=>(Ai TP.E a)) (fun z=>c3) (fun z=>z.2) (fun z=>[]) (fun z=>z.1) (by
  rintro ⟨k,y⟩ h
  cases k with
  |zero=>exact (Bi h).elim
  |succ k=>
   obtain ⟨u,c,d,f⟩:=Bh h
   exact o8 n a b c3 y R _ (fun r e=>hR r (f _ e).symm) (fun y' e s' hw=>⟨(k,y'),d _ e,Nat.lt_succ_self k,hw⟩) c) (k,x) hx hw
theorem Abn (n:Nat) (a:List TP) {t:Gt} (R:AV→Mem→Prop) (hR:∀r:Gt,t=r→∀u m,B5 ((Aa r)) u m→R u m):cE n a=some t→Aej (Ai TP.E a) R:=by
 unfold cE Aej
 refine iq (Aa (a.length:Int)) rfl ?_
 refine imp Ag ?_
 refine As (fun _=> ?_) (fun _=> ?_)
 ·exact Ct hR rfl rfl
 ·refine As (fun _=> ?_) (fun _=> ?_)
  ·exact Ct hR rfl rfl
  ·refine iq (Aa (a.length:Int)) rfl ?_
   refine imp Ag ?_
   exact fun hg=>rF n a (0) (a.length:Int) R hR n _ hg (Ax [] rfl rfl rfl (Ah (An (E:=TP.E) _ false) (oR (oR (Ah (An (E:=TP.E) _ false) (oR (oR A2)))))) Ay)
theorem Ahv {n:Nat} {a:List TP} {t:Gt} (h:cE n a=some t):Cj pg KK.gl 250 [Ai TP.E a] ((Aa t)):=
 A1 (by first|rfl|simp [Ap,clean,Aj,En.Cs]) (by first|rfl|simp [Ap,clean,Aj,En.Cs]) (xN (Ai TP.E a) _ (Abn n a (B5 ((Aa t))) (fun r e u m h=>by rw [e];exact h) h))
theorem Ab9 (n:Nat) (a:Al) {t:lJ} (R:AV→Mem→Prop) (hR:∀r:lJ,t=r→∀u m,B5 ((Aa r)) u m→R u m):Vt n a=some t→Abd (Ai TP.E a.D0) a.Hw a.D4 R:=by
 unfold Vt Abd
 refine imp (Dd rfl) ?_
 refine Aq fun c b=> ?_
 refine imp (Av (Ahv b)) ?_
 refine imp Ag ?_
 refine As (fun _=> ?_) (fun _=> ?_)
 ·exact Ct hR rfl rfl
 ·refine As (fun _=> ?_) (fun _=> ?_)
  ·exact Ct hR rfl rfl
  ·refine As (fun _=> ?_) (fun _=> ?_)
   ·exact Ct hR rfl rfl
   ·refine As (fun _=> ?_) (fun _=> ?_)
    ·exact Ct hR rfl rfl
    ·exact Ct hR rfl rfl
theorem Ahw {n:Nat} {a:Al} {t:lJ} (h:Vt n a=some t):Cj pg KK.gl 193 [AV.agg [Ai TP.E a.D0,Aa a.Hw,Aa a.D4]] ((Aa t)):=
 A1 (by first|rfl|simp [Ap,clean,Aj,En.Cs]) (by first|rfl|simp [Ap,clean,Aj,En.Cs]) (yJ (Ai TP.E a.D0) a.Hw a.D4 _ (Ab9 n a (B5 ((Aa t))) (fun r e u m h=>by rw [e];exact h) h))
theorem Age (n:Nat) (b:Au) (a:ByteArray) (c:List Al) {t:lR} (R:AV→Mem→Prop) (hR:∀r:lR,t=r→∀u m,B5 ((Ae r)) u m→R u m):pI n b a c=some t→Agt b.Name (Ai Al.E b.Room) (AV.B6 [Bq a,Ai Al.E c] 0) R:=by
 unfold pI Agt
 refine imp (Dd rfl) ?_
 refine iq (AV.B6 [Bq a,Ai Al.E c] 0) rfl ?_
 refine iq (Bq a) rfl ?_
 refine imp C1 ?_
 exact Ct hR rfl rfl
theorem Amt {n:Nat} {a:Au} {b:ByteArray} {c:List Al} {t:lR} (h:pI n a b c=some t):Cj pg KK.gl 195 [AV.agg [Bq a.Name,Ai Al.E a.Room],AV.B6 [Bq b,Ai Al.E c] 0] ((Ae t)):=
 A1 (by first|rfl|simp [Ap,clean,Aj,En.Cs]) (by first|rfl|simp [Ap,clean,Aj,En.Cs]) (Aav a.Name (Ai Al.E a.Room) (AV.B6 [Bq b,Ai Al.E c] 0) _ (Age n a b c (B5 ((Ae t))) (fun r e u m h=>by rw [e];exact h) h))
theorem bB (n:Nat) (b:List Au) (c:ByteArray) (d:List Al) (e c7 f:Int) {t:(Int)⊕G5} (R:AV→Mem→Prop) (N0:St→Prop) (hR:∀r:G5,t=(.inr r)→∀u m,B5 ((Aa r)) u m→R u m) (hN0:∀y:Int,t=(.inl y)→∀s':St,Bb KK 19 0 s' (L0 (Ai Au.E b) (AV.fn 195 [AV.B6 [Bq c,Ai Al.E d] 0]) e c7 y [])→N0 s'):Dv n b c d e c7 f=some t→R8 (Ai Au.E b) (AV.fn 195 [AV.B6 [Bq c,Ai Al.E d] 0]) e c7 f [] R N0:=by
 unfold Dv R8
 refine As (fun _=> ?_) (fun _=> ?_)
 ·refine Aq fun a g=> ?_
  refine iq (AV.B6 [Bq a.Name,Ai Al.E a.Room] 0) (Bo (E:=Au.E) rfl g) ?_
  refine iq (AV.agg [Bq a.Name,Ai Al.E a.Room]) rfl ?_
  refine imp Bw ?_
  refine imp C1 ?_
  refine Aq fun i h=> ?_
  refine imp Iy ?_
  refine imp (Q3 rfl) ?_
  refine imp (Gh (Amt h)) ?_
  refine imp Dn ?_
  refine As (fun _=> ?_) (fun _=> ?_)
  ·exact Ct hR rfl rfl
  ·exact fun hg=>hN0 _ (Option.some.inj hg).symm _ (Ax [] rfl rfl rfl (Ah (An (E:=Au.E) _ false) (Ah (E0 (Fb _) (by simp [clean,Ap,Aj])) (oR (oR (oR A2))))) Ay)
 ·exact Ct hR rfl rfl
theorem bZ (n:Nat) (a:List Au) (b:ByteArray) (c:List Al) (d c7:Int) {t:G5} (R:AV→Mem→Prop) (hR:∀r:G5,t=r→∀u m,B5 ((Aa r)) u m→R u m) (k:Nat) (x:Int) (hx:A7 (fun y:Int=>Dv n a b c d c7 y) k x=some t) {s:St} (hw:Bb KK 19 0 s (L0 (Ai Au.E a) (AV.fn 195 [AV.B6 [Bq b,Ai Al.E c] 0]) d c7 x [])):Bu pg KK 19 0 (.loop Ty) s (Vu R):=
 xW R (σ:=Nat×(Int)) (fun z=>A7 (fun y:Int=>Dv n a b c d c7 y) z.1 z.2=some t) (fun z=>(Ai Au.E a)) (fun z=>(AV.fn 195 [AV.B6 [Bq b,Ai Al.E c] 0])) (fun z=>d) (fun z=>c7) (fun z=>z.2) (fun z=>[]) (fun z=>z.1) (by
  rintro ⟨k,y⟩ h
  cases k with
  |zero=>exact (Bi h).elim
  |succ k=>
   obtain ⟨u,f,g,i⟩:=Bh h
   exact bB n a b c d c7 y R _ (fun r e=>hR r (i _ e).symm) (fun y' e s' hw=>⟨(k,y'),g _ e,Nat.lt_succ_self k,hw⟩) f) (k,x) hx hw
theorem qT (n:Nat) (a:List Au) (b:ByteArray) (c:List Al) {t:G5} (R:AV→Mem→Prop) (hR:∀r:G5,t=r→∀u m,B5 ((Aa r)) u m→R u m):Rt n a b c=some t→tS (Ai Au.E a) (AV.fn 195 [AV.B6 [Bq b,Ai Al.E c] 0]) R:=by
 unfold Rt tS
 refine iq (Aa (a.length:Int)) rfl ?_
 refine imp Ag ?_
 exact fun hg=>bZ n a b c (0) (a.length:Int) R hR n _ hg (Ax [] rfl rfl rfl (Ah (An (E:=Au.E) _ false) (Ah (E0 (Fb _) (by simp [clean,Ap,Aj])) (oR (oR (oR A2))))) Ay)
theorem Aa8 {n:Nat} {a:List Au} {b:ByteArray} {c:List Al} {t:G5} (h:Rt n a b c=some t):Cj pg KK.gl 197 [Ai Au.E a,AV.fn 195 [AV.B6 [Bq b,Ai Al.E c] 0]] ((Aa t)):=
 A1 (by first|rfl|simp [Ap,clean,Aj,En.Cs]) (by first|rfl|simp [Ap,clean,Aj,En.Cs]) (dN (Ai Au.E a) (AV.fn 195 [AV.B6 [Bq b,Ai Al.E c] 0]) _ (qT n a b c (B5 ((Aa t))) (fun r e u m h=>by rw [e];exact h) h))
theorem Abw (n:Nat) (a:List Au) (b:ByteArray) (c:List Al) {t:lF} (R:AV→Mem→Prop) (hR:∀r:lF,t=r→∀u m,B5 ((Ae r)) u m→R u m):cO n a b c=some t→Agb (Ai Au.E a) (AV.fn 195 [AV.B6 [Bq b,Ai Al.E c] 0]) R:=by
 unfold cO Agb
 refine Aq fun e d=> ?_
 refine imp (Av (Aa8 d)) ?_
 refine imp Ag ?_
 exact Ct hR rfl rfl
theorem Amz {n:Nat} {a:List Au} {b:ByteArray} {c:List Al} {t:lF} (h:cO n a b c=some t):Cj pg KK.gl 194 [Ai Au.E a,AV.fn 195 [AV.B6 [Bq b,Ai Al.E c] 0]] ((Ae t)):=
 A1 (by first|rfl|simp [Ap,clean,Aj,En.Cs]) (by first|rfl|simp [Ap,clean,Aj,En.Cs]) (wU (Ai Au.E a) (AV.fn 195 [AV.B6 [Bq b,Ai Al.E c] 0]) _ (Abw n a b c (B5 ((Ae t))) (fun r e u m h=>by rw [e];exact h) h))
theorem rY (n:Nat) (c:List TP) (c7 d:Int) (b:List TP) {t:(Int×List TP)⊕P7} (R:AV→Mem→Prop) (N0:St→Prop) (hR:∀r:P7,t=(.inr r)→∀u m,B5 ((Ai TP.E r)) u m→R u m) (hN0:∀y:Int×List TP,t=(.inl y)→∀s':St,Bb KK 24 0 s' (R0 AV.Bp (B3 TP.E 90000 y.2) (Ai TP.E c) c7 y.1 [(90000,B9 TP.E 51 y.2)])→N0 s'):Kr n c c7 d b=some t→Yy AV.Bp (B3 TP.E 90000 b) (Ai TP.E c) c7 d [(90000,B9 TP.E 51 b)] R N0:=by
 unfold Kr Yy
 refine As (fun _=> ?_) (fun _=> ?_)
 ·refine Aq fun a e=> ?_
  refine iq (AV.B6 [Aa a.X,Aa a.Y] 0) (Bo (E:=TP.E) rfl e) ?_
  refine iq (AV.agg [Aa a.X,Aa a.Y]) rfl ?_
  refine imp Bw ?_
  iterate 2 refine imp Ag ?_
  refine iq (AV.agg [Aa (IntKind.wrap .i64 ((2)*a.X)),Aa (IntKind.wrap .i64 ((2)*a.Y))]) rfl ?_
  refine imp (Dm (show _=some ((Eu TP.E 100013 ([(⟨IntKind.wrap .i64 ((2)*a.X),IntKind.wrap .i64 ((2)*a.Y)⟩:TP)]:List TP)),[(100013,some ⟨Az TP.E ([(⟨IntKind.wrap .i64 ((2)*a.X),IntKind.wrap .i64 ((2)*a.Y)⟩:TP)]:List TP),51⟩)]) from rfl)) ?_
  refine Aq fun g f=> ?_
  refine imp (Dm (show _=some ((B3 TP.E 100014 (b++([(⟨IntKind.wrap .i64 ((2)*a.X),IntKind.wrap .i64 ((2)*a.Y)⟩:TP)]:List TP))),(Jj TP.E 100014 90000 51 b ([(⟨IntKind.wrap .i64 ((2)*a.X),IntKind.wrap .i64 ((2)*a.Y)⟩:TP)]:List TP))) from (Ie (E:=TP.E) (l':=b) (xs:=([(⟨IntKind.wrap .i64 ((2)*a.X),IntKind.wrap .i64 ((2)*a.Y)⟩:TP)]:List TP)) rfl rfl (Fq (E:=TP.E) (ty:=51) rfl rfl B8) asE rfl (fun hne=>Eq.trans B8 (C7 hne)) f))) ?_
  exact fun hg=>hN0 _ (Option.some.inj hg).symm _ (Ax [(90000,100014)] rfl rfl rfl (oR (Ah (Cl (E:=TP.E) (id:=100014) (l':=(b++([(⟨IntKind.wrap .i64 ((2)*a.X),IntKind.wrap .i64 ((2)*a.Y)⟩:TP)]:List TP))) rfl rfl) (Ah (An (E:=TP.E) _ false) (oR (oR A2))))) (A0 (Cg (E:=TP.E) (ty:=51) (l':=(b++([(⟨IntKind.wrap .i64 ((2)*a.X),IntKind.wrap .i64 ((2)*a.Y)⟩:TP)]:List TP))) rfl (show Ao _ 100014=_ from B8)) Ay))
 ·exact fun hg=>gI (hR _ (Option.some.inj hg).symm) (aX (E:=TP.E) (ty:=51) (l':=b) _ rfl B8)
theorem pL (n:Nat) (a:List TP) (c7:Int) {t:P7} (R:AV→Mem→Prop) (hR:∀r:P7,t=r→∀u m,B5 ((Ai TP.E r)) u m→R u m) (k:Nat) (x:Int×List TP) (hx:A7 (fun y:Int×List TP=>Kr n a c7 y.1 y.2) k x=some t) {s:St} (hw:Bb KK 24 0 s (R0 AV.Bp (B3 TP.E 90000 x.2) (Ai TP.E a) c7 x.1 [(90000,B9 TP.E 51 x.2)])):Bu pg KK 24 0 (.loop Y7) s (Y6 R):=
 Aio R (σ:=Nat×(Int×List TP)) (fun z=>A7 (fun y:Int×List TP=>Kr n a c7 y.1 y.2) z.1 z.2=some t) (fun z=>AV.Bp) (fun z=>(B3 TP.E 90000 z.2.2)) (fun z=>(Ai TP.E a)) (fun z=>c7) (fun z=>z.2.1) (fun z=>[(90000,B9 TP.E 51 z.2.2)]) (fun z=>z.1) (by
  rintro ⟨k,y⟩ h
  cases k with
  |zero=>exact (Bi h).elim
  |succ k=>
   obtain ⟨u,b,c,d⟩:=Bh h
   exact rY n a c7 y.1 y.2 R _ (fun r e=>hR r (d _ e).symm) (fun y' e s' hw=>⟨(k,y'),c _ e,Nat.lt_succ_self k,hw⟩) b) (k,x) hx hw
theorem Adu (n:Nat) (a:List TP) {t:P7} (R:AV→Mem→Prop) (hR:∀r:P7,t=r→∀u m,B5 ((Ai TP.E r)) u m→R u m):kE n a=some t→Afj (Ai TP.E a) R:=by
 unfold kE Afj
 refine iq (Aa (a.length:Int)) rfl ?_
 refine imp Ag ?_
 exact fun hg=>pL n a (a.length:Int) R hR n _ hg (Ax [(90000,89500)] rfl rfl rfl (oR (Ah Ft (Ah (An (E:=TP.E) _ false) (oR (oR A2))))) (A0 Mx Ay))
theorem Ah8 {n:Nat} {a:List TP} {t:P7} (h:kE n a=some t):Cj pg KK.gl 307 [Ai TP.E a] ((Ai TP.E t)):=
 A1 (by first|rfl|simp [Ap,clean,Aj,En.Cs]) (by first|rfl|simp [Ap,clean,Aj,En.Cs]) (yW (Ai TP.E a) _ (Adu n a (B5 ((Ai TP.E t))) (fun r e u m h=>by rw [e];exact h) h))
theorem Af6 (n:Nat) (c d:TP) (a b:Int) {t:nP} (R:AV→Mem→Prop) (hR:∀r:nP,t=r→∀u m,B5 ((Aa r)) u m→R u m):N6 n c d a b=some t→Acu c.X c.Y d.X d.Y (AV.B6 [Aa a,Aa b] 0) R:=by
 unfold N6 Acu
 refine iq (AV.agg [Aa a,Aa b]) rfl ?_
 refine imp Bw ?_
 iterate 2 refine imp Ag ?_
 refine Aq fun g e=> ?_
 refine imp (Av (Aai e)) ?_
 refine imp Ag ?_
 refine iq (AV.agg [Aa a,Aa b]) rfl ?_
 refine imp Bw ?_
 iterate 2 refine imp Ag ?_
 refine Aq fun h f=> ?_
 refine imp (Av (Aai f)) ?_
 refine imp Ag ?_
 exact Ct hR rfl rfl
theorem Al0 {n:Nat} {a:TP} {b:TP} {c:Int} {d:Int} {t:nP} (h:N6 n a b c d=some t):Cj pg KK.gl 340 [AV.agg [Aa a.X,Aa a.Y],AV.agg [Aa b.X,Aa b.Y],AV.B6 [Aa c,Aa d] 0] ((Aa t)):=
 A1 (by first|rfl|simp [Ap,clean,Aj,En.Cs]) (by first|rfl|simp [Ap,clean,Aj,En.Cs]) (vW a.X a.Y b.X b.Y (AV.B6 [Aa c,Aa d] 0) _ (Af6 n a b c d (B5 ((Aa t))) (fun r e u m h=>by rw [e];exact h) h))
theorem Wi (n:Nat) (k l:List TP) (o:Bool) (s p q v d e f g i j u101:Int) (h:List TP) {t:(Int×List TP)⊕((Int×List TP)⊕((Int)⊕Fi))} (R:AV→Mem→Prop) (N0 N1 N2:St→Prop) (hR:∀r:Fi,t=(.inr (.inr (.inr r)))→∀u m,B5 ((Ae r)) u m→R u m) (hN0:∀y:Int,t=(.inr (.inr (.inl y)))→∀s':St,Bb KK 127 0 s' (H4 (Ai TP.E k) (Ai TP.E l) o p y [])→N0 s') (hN1:∀y:Int×List TP,t=(.inr (.inl y))→∀s':St,Bb KK 127 0 s' (Hl (Ai TP.E k) (Ai TP.E l) o (B3 TP.E 90000 y.2) y.1 p q [(90000,B9 TP.E 51 y.2),(100010,some ⟨[Aa d,Aa e],51⟩),(100011,some ⟨[Aa f,Aa g],51⟩)])→N1 s') (hN2:∀y:Int×List TP,t=(.inl y)→∀s':St,Bb KK 127 0 s' (Hd (Ai TP.E k) (Ai TP.E l) o (B3 TP.E 90000 y.2) s p q v y.1 [(90000,B9 TP.E 51 y.2),(100010,some ⟨[Aa d,Aa e],51⟩),(100011,some ⟨[Aa f,Aa g],51⟩),(300041,some ⟨[Aa i,Aa j],51⟩)])→N2 s'):Et n k l o s p q v d e f g i j u101 h=some t→Ky (Ai TP.E k) (Ai TP.E l) o (B3 TP.E 90000 h) s p q v u101 [(90000,B9 TP.E 51 h),(100010,some ⟨[Aa d,Aa e],51⟩),(100011,some ⟨[Aa f,Aa g],51⟩),(300041,some ⟨[Aa i,Aa j],51⟩)] R N0 N1 N2:=by
 unfold Et Ky
 refine As (fun _=> ?_) (fun _=> ?_)
 ·refine Aq fun a w=> ?_
  refine imp (Cu (show _=some ((AV.B6 [Aa a.X,Aa a.Y] 0),[]) from (Bo (E:=TP.E) rfl w))) ?_
  refine imp (Cu (show _=some ((AV.agg [Aa a.X,Aa a.Y]),[]) from rfl)) ?_
  refine imp Bw ?_
  iterate 2 refine imp Ag ?_
  refine Aq fun c x=> ?_
  refine imp (Ix (Oy x)) ?_
  refine imp Bw ?_
  iterate 2 refine imp Ag ?_
  refine imp (Bz (sz:=2) Bf Bf rfl rfl (cs:=[Aa (0),Aa (0)]) (cs':=[Aa a.X,Aa a.Y]) (ty:=51) (by first|rfl|(rw [Dw (by first|rfl|simp [Dx]|simp [A3])];first|rfl|(simp (disch:=first|decide|assumption) only [lk]))) rfl rfl) ?_
  refine imp (Bz (sz:=2) Bf Bf rfl rfl (cs:=[Aa (0),Aa (0)]) (cs':=[Aa c.X,Aa c.Y]) (ty:=51) (by first|rfl|(rw [Dw (by first|rfl|simp [Dx]|simp [A3])];first|rfl|(simp (disch:=first|decide|assumption) only [lk]))) rfl rfl) ?_
  refine imp (Dd Bf) ?_
  refine iq (AV.agg [Aa a.X,Aa a.Y]) (Dz (b:=⟨[Aa a.X,Aa a.Y],51⟩) B8 rfl) ?_
  refine imp Bw ?_
  iterate 2 refine imp Ag ?_
  refine iq (AV.agg [Aa c.X,Aa c.Y]) (Dz (b:=⟨[Aa c.X,Aa c.Y],51⟩) B8 rfl) ?_
  refine imp Bw ?_
  iterate 2 refine imp Ag ?_
  refine iq (AV.agg [Aa i,Aa j]) (Dz (b:=⟨[Aa i,Aa j],51⟩) B8 rfl) ?_
  refine imp Bw ?_
  iterate 2 refine imp Ag ?_
  refine Aq fun ae z=> ?_
  refine imp (Av (U7 z)) ?_
  refine imp Dn ?_
  refine As (fun _=> ?_) (fun _=> ?_)
  ·refine iq (AV.agg [Aa f,Aa g]) (Dz (b:=⟨[Aa f,Aa g],51⟩) B8 rfl) ?_
   refine imp Bw ?_
   iterate 2 refine imp Ag ?_
   refine iq (AV.agg [Aa d,Aa e]) (Dz (b:=⟨[Aa d,Aa e],51⟩) B8 rfl) ?_
   refine imp Bw ?_
   iterate 2 refine imp Ag ?_
   refine Aq fun af aa=> ?_
   refine imp (Av (eJ aa)) ?_
   refine imp Bw ?_
   iterate 2 refine imp Ag ?_
   refine iq (AV.agg [Aa c.X,Aa c.Y]) (Dz (b:=⟨[Aa c.X,Aa c.Y],51⟩) B8 rfl) ?_
   refine imp Bw ?_
   iterate 2 refine imp Ag ?_
   refine iq (AV.agg [Aa a.X,Aa a.Y]) (Dz (b:=⟨[Aa a.X,Aa a.Y],51⟩) B8 rfl) ?_
   refine imp Bw ?_
   iterate 2 refine imp Ag ?_
   refine Aq fun ag ab=> ?_
   refine imp (Av (eJ ab)) ?_
   refine imp Bw ?_
   iterate 2 refine imp Ag ?_
   refine Aq fun ah ad=> ?_
   refine imp (Av (Ah1 ad)) ?_
   refine imp Ag ?_
   refine As (fun _=> ?_) (fun _=> ?_)
   ·exact Ct hR rfl rfl
   ·exact fun hg=>hN2 _ (Option.some.inj hg).symm _ (Ax [(90000,90000),(100010,100010),(100011,100011),(300041,300041)] rfl rfl rfl (Ah (An (E:=TP.E) _ false) (Ah (An (E:=TP.E) _ false) (oR (oR (oR (Ah (Cl (E:=TP.E) (id:=90000) (l':=h) rfl rfl) (oR (oR (oR (oR (oR (oR A2)))))))))))) (A0 (Cg (E:=TP.E) (ty:=51) (l':=h) rfl (show Ao _ 90000=_ from B8)) (A0 (Ba (cs:=[Aa d,Aa e]) (ty:=51) rfl (show Ao _ 100010=_ from B8)) (A0 (Ba (cs:=[Aa f,Aa g]) (ty:=51) rfl (show Ao _ 100011=_ from B8)) (A0 (Ba (cs:=[Aa i,Aa j]) (ty:=51) rfl (show Ao _ 300041=_ from B8)) Ay)))))
  ·exact fun hg=>hN2 _ (Option.some.inj hg).symm _ (Ax [(90000,90000),(100010,100010),(100011,100011),(300041,300041)] rfl rfl rfl (Ah (An (E:=TP.E) _ false) (Ah (An (E:=TP.E) _ false) (oR (oR (oR (Ah (Cl (E:=TP.E) (id:=90000) (l':=h) rfl rfl) (oR (oR (oR (oR (oR (oR A2)))))))))))) (A0 (Cg (E:=TP.E) (ty:=51) (l':=h) rfl (show Ao _ 90000=_ from B8)) (A0 (Ba (cs:=[Aa d,Aa e]) (ty:=51) rfl (show Ao _ 100010=_ from B8)) (A0 (Ba (cs:=[Aa f,Aa g]) (ty:=51) rfl (show Ao _ 100011=_ from B8)) (A0 (Ba (cs:=[Aa i,Aa j]) (ty:=51) rfl (show Ao _ 300041=_ from B8)) Ay)))))
 ·exact fun hg=>hN1 _ (Option.some.inj hg).symm _ (Ax [(90000,90000),(100010,100010),(100011,100011)] rfl rfl rfl (Ah (An (E:=TP.E) _ false) (Ah (An (E:=TP.E) _ false) (oR (oR (oR (Ah (Cl (E:=TP.E) (id:=90000) (l':=h) rfl rfl) (oR (oR (oR A2))))))))) (A0 (Cg (E:=TP.E) (ty:=51) (l':=h) rfl (show Ao _ 90000=_ from B8)) (A0 (Ba (cs:=[Aa d,Aa e]) (ty:=51) rfl (show Ao _ 100010=_ from B8)) (A0 (Ba (cs:=[Aa f,Aa g]) (ty:=51) rfl (show Ao _ 100011=_ from B8)) Ay))))
theorem V6 (n:Nat) (a b:List TP) (c:Bool) (o d f p g i j l q v:Int) {t:((Int×List TP)⊕((Int)⊕Fi))} (R:AV→Mem→Prop) (N0 N1:St→Prop) (hR:∀r:Fi,t=(.inr (.inr r))→∀u m,B5 ((Ae r)) u m→R u m) (hN0:∀y:Int,t=(.inr (.inl y))→∀s':St,Bb KK 127 0 s' (H4 (Ai TP.E a) (Ai TP.E b) c d y [])→N0 s') (hN1:∀y:Int×List TP,t=(.inl y)→∀s':St,Bb KK 127 0 s' (Hl (Ai TP.E a) (Ai TP.E b) c (B3 TP.E 90000 y.2) y.1 d f [(90000,B9 TP.E 51 y.2),(100010,some ⟨[Aa g,Aa i],51⟩),(100011,some ⟨[Aa j,Aa l],51⟩)])→N1 s') (k:Nat) (x:Int×List TP) (hx:A7 (fun y:Int×List TP=>Et n a b c o d f p g i j l q v y.1 y.2) k x=some t) {s:St} (hw:Bb KK 127 0 s (Hd (Ai TP.E a) (Ai TP.E b) c (B3 TP.E 90000 x.2) o d f p x.1 [(90000,B9 TP.E 51 x.2),(100010,some ⟨[Aa g,Aa i],51⟩),(100011,some ⟨[Aa j,Aa l],51⟩),(300041,some ⟨[Aa q,Aa v],51⟩)])):Bu pg KK 127 0 (.loop Ks) s (K1 R N0 N1):=
 jO R N0 N1 (σ:=Nat×(Int×List TP)) (fun z=>A7 (fun y:Int×List TP=>Et n a b c o d f p g i j l q v y.1 y.2) z.1 z.2=some t) (fun z=>(Ai TP.E a)) (fun z=>(Ai TP.E b)) (fun z=>c) (fun z=>(B3 TP.E 90000 z.2.2)) (fun z=>o) (fun z=>d) (fun z=>f) (fun z=>p) (fun z=>z.2.1) (fun z=>[(90000,B9 TP.E 51 z.2.2),(100010,some ⟨[Aa g,Aa i],51⟩),(100011,some ⟨[Aa j,Aa l],51⟩),(300041,some ⟨[Aa q,Aa v],51⟩)]) (fun z=>z.1) (by
  rintro ⟨k,y⟩ h
  cases k with
  |zero=>exact (Bi h).elim
  |succ k=>
   obtain ⟨u,h1,h2,w⟩:=Bh h
   exact Wi n a b c o d f p g i j l q v y.1 y.2 R N0 N1 _ (fun r e=>hR r (w _ e).symm) (fun y' e=>hN0 y' (w _ e).symm) (fun y' e=>hN1 y' (w _ e).symm) (fun y' e s' hw=>⟨(k,y'),h2 _ e,Nat.lt_succ_self k,hw⟩) h1) (k,x) hx hw
theorem cT (n:Nat) (q d:List TP) (s:Bool) (v w e f g h c:Int) (a:List TP) {t:(Int×List TP)⊕((Int)⊕Fi)} (R:AV→Mem→Prop) (N0 N1:St→Prop) (hR:∀r:Fi,t=(.inr (.inr r))→∀u m,B5 ((Ae r)) u m→R u m) (hN0:∀y:Int,t=(.inr (.inl y))→∀s':St,Bb KK 127 0 s' (H4 (Ai TP.E q) (Ai TP.E d) s v y [])→N0 s') (hN1:∀y:Int×List TP,t=(.inl y)→∀s':St,Bb KK 127 0 s' (Hl (Ai TP.E q) (Ai TP.E d) s (B3 TP.E 90000 y.2) y.1 v w [(90000,B9 TP.E 51 y.2),(100010,some ⟨[Aa e,Aa f],51⟩),(100011,some ⟨[Aa g,Aa h],51⟩)])→N1 s'):Ge n q d s v w e f g h c a=some t→Pb (Ai TP.E q) (Ai TP.E d) s (B3 TP.E 90000 a) c v w [(90000,B9 TP.E 51 a),(100010,some ⟨[Aa e,Aa f],51⟩),(100011,some ⟨[Aa g,Aa h],51⟩)] R N0 N1:=by
 unfold Ge Pb
 refine imp (Ds (show _=some ((Aa (a.length:Int)),[]) from Qx)) ?_
 refine imp Ag ?_
 refine As (fun _=> ?_) (fun _=> ?_)
 ·refine Aq fun x aa=> ?_
  refine iq (AV.ptr 90000 (((c:Int).toNat)*2+0)) (Jr (E:=TP.E) rfl aa) ?_
  refine iq (AV.agg [Aa x.X,Aa x.Y]) (mQ (E:=TP.E) (l:=a) (ty:=51) rfl (Hs (ty:=51) B8 (Cc aa).2) (Cc aa).2 rfl) ?_
  refine imp Bw ?_
  iterate 2 refine imp Ag ?_
  refine Aq fun z ab=> ?_
  refine iq (AV.ptr 90000 ((((IntKind.wrap .i64 (c-(1))):Int).toNat)*2+0)) (Jr (E:=TP.E) rfl ab) ?_
  refine iq (AV.agg [Aa z.X,Aa z.Y]) (mQ (E:=TP.E) (l:=a) (ty:=51) rfl (Hs (ty:=51) B8 (Cc ab).2) (Cc ab).2 rfl) ?_
  refine imp Bw ?_
  iterate 2 refine imp Ag ?_
  refine iq (Ae (decide (x=z))) (TP.Am6 (x) (z)) ?_
  refine imp Dn ?_
  refine As (fun _=> ?_) (fun _=> ?_)
  ·exact fun hg=>hN1 _ (Option.some.inj hg).symm _ (Ax [(90000,90000),(100010,100010),(100011,100011)] rfl rfl rfl (Ah (An (E:=TP.E) _ false) (Ah (An (E:=TP.E) _ false) (oR (oR (oR (Ah (Cl (E:=TP.E) (id:=90000) (l':=a) rfl rfl) (oR (oR (oR A2))))))))) (A0 (Cg (E:=TP.E) (ty:=51) (l':=a) rfl (show Ao _ 90000=_ from B8)) (A0 (Ba (cs:=[Aa e,Aa f]) (ty:=51) rfl (show Ao _ 100010=_ from B8)) (A0 (Ba (cs:=[Aa g,Aa h]) (ty:=51) rfl (show Ao _ 100011=_ from B8)) Ay))))
  ·refine Aq fun i ad=> ?_
   refine imp (Cu (show _=some ((AV.ptr 90000 (((c:Int).toNat)*2+0)),[]) from (Jr (E:=TP.E) rfl ad))) ?_
   refine imp (Cu (show _=some ((AV.ptr 90000 (((c:Int).toNat)*2+0)),[]) from rfl)) ?_
   refine imp (Cu (show _=some ((Aa i.X),[]) from (K0 (E:=TP.E) (l:=a) (ty:=51) (o:=0) (Hs (ty:=51) (by first|rfl|(rw [Dw (by first|rfl|simp [Dx]|simp [A3])];first|rfl|(simp (disch:=first|decide|assumption) only [lk]))) (Cc ad).2) (Cc ad).2 rfl (by decide) rfl))) ?_
   refine imp Ag ?_
   refine Aq fun j ae=> ?_
   refine imp (Cu (show _=some ((AV.ptr 90000 ((((IntKind.wrap .i64 (c-(1))):Int).toNat)*2+0)),[]) from (Jr (E:=TP.E) rfl ae))) ?_
   refine imp (Cu (show _=some ((AV.ptr 90000 ((((IntKind.wrap .i64 (c-(1))):Int).toNat)*2+0)),[]) from rfl)) ?_
   refine imp (Cu (show _=some ((Aa j.X),[]) from (K0 (E:=TP.E) (l:=a) (ty:=51) (o:=0) (Hs (ty:=51) (by first|rfl|(rw [Dw (by first|rfl|simp [Dx]|simp [A3])];first|rfl|(simp (disch:=first|decide|assumption) only [lk]))) (Cc ae).2) (Cc ae).2 rfl (by decide) rfl))) ?_
   refine imp Ag ?_
   refine Aq fun k af=> ?_
   refine imp (Cu (show _=some ((AV.ptr 90000 (((c:Int).toNat)*2+0)),[]) from (Jr (E:=TP.E) rfl af))) ?_
   refine imp (Cu (show _=some ((AV.ptr 90000 (((c:Int).toNat)*2+1)),[]) from rfl)) ?_
   refine imp (Cu (show _=some ((Aa k.Y),[]) from (K0 (E:=TP.E) (l:=a) (ty:=51) (o:=1) (Hs (ty:=51) (by first|rfl|(rw [Dw (by first|rfl|simp [Dx]|simp [A3])];first|rfl|(simp (disch:=first|decide|assumption) only [lk]))) (Cc af).2) (Cc af).2 rfl (by decide) rfl))) ?_
   refine imp Ag ?_
   refine Aq fun p ag=> ?_
   refine imp (Cu (show _=some ((AV.ptr 90000 ((((IntKind.wrap .i64 (c-(1))):Int).toNat)*2+0)),[]) from (Jr (E:=TP.E) rfl ag))) ?_
   refine imp (Cu (show _=some ((AV.ptr 90000 ((((IntKind.wrap .i64 (c-(1))):Int).toNat)*2+1)),[]) from rfl)) ?_
   refine imp (Cu (show _=some ((Aa p.Y),[]) from (K0 (E:=TP.E) (l:=a) (ty:=51) (o:=1) (Hs (ty:=51) (by first|rfl|(rw [Dw (by first|rfl|simp [Dx]|simp [A3])];first|rfl|(simp (disch:=first|decide|assumption) only [lk]))) (Cc ag).2) (Cc ag).2 rfl (by decide) rfl))) ?_
   refine imp Ag ?_
   refine imp (Cu (show _=some ((AV.agg [Aa (IntKind.wrap .i64 (Int.tdiv (IntKind.wrap .i64 (i.X+j.X)) (2))),Aa (IntKind.wrap .i64 (Int.tdiv (IntKind.wrap .i64 (k.Y+p.Y)) (2)))]),[]) from rfl)) ?_
   refine imp (Bz (sz:=2) Bf Bf rfl rfl (cs:=[Aa (0),Aa (0)]) (cs':=[Aa (IntKind.wrap .i64 (Int.tdiv (IntKind.wrap .i64 (i.X+j.X)) (2))),Aa (IntKind.wrap .i64 (Int.tdiv (IntKind.wrap .i64 (k.Y+p.Y)) (2)))]) (ty:=51) (by first|rfl|(rw [Dw (by first|rfl|simp [Dx]|simp [A3])];first|rfl|(simp (disch:=first|decide|assumption) only [lk]))) rfl rfl) ?_
   refine imp (Dd Bf) ?_
   refine iq (AV.agg [Aa (IntKind.wrap .i64 (Int.tdiv (IntKind.wrap .i64 (i.X+j.X)) (2))),Aa (IntKind.wrap .i64 (Int.tdiv (IntKind.wrap .i64 (k.Y+p.Y)) (2)))]) (Dz (b:=⟨[Aa (IntKind.wrap .i64 (Int.tdiv (IntKind.wrap .i64 (i.X+j.X)) (2))),Aa (IntKind.wrap .i64 (Int.tdiv (IntKind.wrap .i64 (k.Y+p.Y)) (2)))],51⟩) B8 rfl) ?_
   refine imp Bw ?_
   iterate 2 refine imp Ag ?_
   refine Aq fun ai ah=> ?_
   refine imp (Av (Aia ah)) ?_
   refine imp Ag ?_
   refine As (fun _=> ?_) (fun _=> ?_)
   ·exact Ct hR rfl rfl
   ·refine As (fun _=> ?_) (fun _=> ?_)
    ·refine iq (Aa (d.length:Int)) rfl ?_
     refine imp Ag ?_
     exact fun hg=>V6 n q d s c v w (d.length:Int) e f g h (IntKind.wrap .i64 (Int.tdiv (IntKind.wrap .i64 (i.X+j.X)) (2))) (IntKind.wrap .i64 (Int.tdiv (IntKind.wrap .i64 (k.Y+p.Y)) (2))) R N0 N1 hR hN0 hN1 n _ hg (Ax [(90000,90000),(100010,100010),(100011,100011),(300041,300041)] rfl rfl rfl (Ah (An (E:=TP.E) _ false) (Ah (An (E:=TP.E) _ false) (oR (oR (oR (Ah (Cl (E:=TP.E) (id:=90000) (l':=a) rfl rfl) (oR (oR (oR (oR (oR (oR A2)))))))))))) (A0 (Cg (E:=TP.E) (ty:=51) (l':=a) rfl (show Ao _ 90000=_ from B8)) (A0 (Ba (cs:=[Aa e,Aa f]) (ty:=51) rfl (show Ao _ 100010=_ from B8)) (A0 (Ba (cs:=[Aa g,Aa h]) (ty:=51) rfl (show Ao _ 100011=_ from B8)) (A0 (Ba (cs:=[Aa (IntKind.wrap .i64 (Int.tdiv (IntKind.wrap .i64 (i.X+j.X)) (2))),Aa (IntKind.wrap .i64 (Int.tdiv (IntKind.wrap .i64 (k.Y+p.Y)) (2)))]) (ty:=51) rfl (show Ao _ 300041=_ from B8)) Ay)))))
    ·exact fun hg=>hN1 _ (Option.some.inj hg).symm _ (Ax [(90000,90000),(100010,100010),(100011,100011)] rfl rfl rfl (Ah (An (E:=TP.E) _ false) (Ah (An (E:=TP.E) _ false) (oR (oR (oR (Ah (Cl (E:=TP.E) (id:=90000) (l':=a) rfl rfl) (oR (oR (oR A2))))))))) (A0 (Cg (E:=TP.E) (ty:=51) (l':=a) rfl (show Ao _ 90000=_ from B8)) (A0 (Ba (cs:=[Aa e,Aa f]) (ty:=51) rfl (show Ao _ 100010=_ from B8)) (A0 (Ba (cs:=[Aa g,Aa h]) (ty:=51) rfl (show Ao _ 100011=_ from B8)) Ay))))
 ·exact fun hg=>hN0 _ (Option.some.inj hg).symm _ (Ax [] rfl rfl rfl (Ah (An (E:=TP.E) _ false) (Ah (An (E:=TP.E) _ false) (oR (oR (oR A2))))) Ay)
theorem dK (n:Nat) (a b:List TP) (c:Bool) (d f g i j l:Int) {t:((Int)⊕Fi)} (R:AV→Mem→Prop) (N0:St→Prop) (hR:∀r:Fi,t=(.inr r)→∀u m,B5 ((Ae r)) u m→R u m) (hN0:∀y:Int,t=(.inl y)→∀s':St,Bb KK 127 0 s' (H4 (Ai TP.E a) (Ai TP.E b) c d y [])→N0 s') (k:Nat) (x:Int×List TP) (hx:A7 (fun y:Int×List TP=>Ge n a b c d f g i j l y.1 y.2) k x=some t) {s:St} (hw:Bb KK 127 0 s (Hl (Ai TP.E a) (Ai TP.E b) c (B3 TP.E 90000 x.2) x.1 d f [(90000,B9 TP.E 51 x.2),(100010,some ⟨[Aa g,Aa i],51⟩),(100011,some ⟨[Aa j,Aa l],51⟩)])):Bu pg KK 127 0 (.loop Kh) s (Ow R N0):=
 zT R N0 (σ:=Nat×(Int×List TP)) (fun z=>A7 (fun y:Int×List TP=>Ge n a b c d f g i j l y.1 y.2) z.1 z.2=some t) (fun z=>(Ai TP.E a)) (fun z=>(Ai TP.E b)) (fun z=>c) (fun z=>(B3 TP.E 90000 z.2.2)) (fun z=>z.2.1) (fun z=>d) (fun z=>f) (fun z=>[(90000,B9 TP.E 51 z.2.2),(100010,some ⟨[Aa g,Aa i],51⟩),(100011,some ⟨[Aa j,Aa l],51⟩)]) (fun z=>z.1) (by
  rintro ⟨k,y⟩ h
  cases k with
  |zero=>exact (Bi h).elim
  |succ k=>
   obtain ⟨u,p,q,o⟩:=Bh h
   exact cT n a b c d f g i j l y.1 y.2 R N0 _ (fun r e=>hR r (o _ e).symm) (fun y' e=>hN0 y' (o _ e).symm) (fun y' e s' hw=>⟨(k,y'),q _ e,Nat.lt_succ_self k,hw⟩) p) (k,x) hx hw
theorem dR (n:Nat) (k j:List TP) (o:Bool) (p q s d f g i v:Int) (a:List TP) {t:(Int×List TP)⊕((Int)⊕Fi)} (R:AV→Mem→Prop) (N0 N1:St→Prop) (hR:∀r:Fi,t=(.inr (.inr r))→∀u m,B5 ((Ae r)) u m→R u m) (hN0:∀y:Int,t=(.inr (.inl y))→∀s':St,Bb KK 127 0 s' (H4 (Ai TP.E k) (Ai TP.E j) o p y [])→N0 s') (hN1:∀y:Int×List TP,t=(.inl y)→∀s':St,Bb KK 127 0 s' (Ka (Ai TP.E k) (Ai TP.E j) o (B3 TP.E 90000 y.2) p q (Ai TP.E j) s y.1 [(90000,B9 TP.E 51 y.2),(100010,some ⟨[Aa d,Aa f],51⟩),(100011,some ⟨[Aa g,Aa i],51⟩)])→N1 s'):Gx n k j o p q s d f g i v a=some t→Ov (Ai TP.E k) (Ai TP.E j) o (B3 TP.E 90000 a) p q (Ai TP.E j) s v [(90000,B9 TP.E 51 a),(100010,some ⟨[Aa d,Aa f],51⟩),(100011,some ⟨[Aa g,Aa i],51⟩)] R N0 N1:=by
 unfold Gx Ov
 refine As (fun _=> ?_) (fun _=> ?_)
 ·refine Aq fun c ab=> ?_
  refine iq (AV.B6 [Aa c.X,Aa c.Y] 0) (Bo (E:=TP.E) rfl ab) ?_
  refine iq (AV.agg [Aa c.X,Aa c.Y]) rfl ?_
  refine imp Bw ?_
  iterate 2 refine imp Ag ?_
  refine iq (AV.agg [Aa d,Aa f]) (Dz (b:=⟨[Aa d,Aa f],51⟩) B8 rfl) ?_
  refine imp Bw ?_
  iterate 2 refine imp Ag ?_
  refine iq (AV.agg [Aa g,Aa i]) (Dz (b:=⟨[Aa g,Aa i],51⟩) B8 rfl) ?_
  refine imp Bw ?_
  iterate 2 refine imp Ag ?_
  refine Aq fun af ad=> ?_
  refine imp (Av (U7 ad)) ?_
  refine imp Dn ?_
  refine As (fun _=> ?_) (fun _=> ?_)
  ·refine imp (Dm (show _=some ((Eu TP.E 200074 ([c]:List TP)),[(200074,some ⟨Az TP.E ([c]:List TP),51⟩)]) from rfl)) ?_
   refine Aq fun ag ae=> ?_
   refine imp (Dm (show _=some ((B3 TP.E 200075 (a++([c]:List TP))),(Jj TP.E 200075 90000 51 a ([c]:List TP))) from (Ie (E:=TP.E) (l':=a) (xs:=([c]:List TP)) rfl rfl (Fq (E:=TP.E) (ty:=51) rfl rfl B8) asE rfl (fun hne=>Eq.trans B8 (C7 hne)) ae))) ?_
   exact fun hg=>hN1 _ (Option.some.inj hg).symm _ (Ax [(90000,200075),(100010,100010),(100011,100011)] rfl rfl rfl (Ah (An (E:=TP.E) _ false) (Ah (An (E:=TP.E) _ false) (oR (oR (oR (Ah (Cl (E:=TP.E) (id:=200075) (l':=(a++([c]:List TP))) rfl rfl) (oR (oR (Ah (An (E:=TP.E) _ false) (oR (oR A2))))))))))) (A0 (Cg (E:=TP.E) (ty:=51) (l':=(a++([c]:List TP))) rfl (show Ao _ 200075=_ from B8)) (A0 (Ba (cs:=[Aa d,Aa f]) (ty:=51) rfl (show Ao _ 100010=_ from B8)) (A0 (Ba (cs:=[Aa g,Aa i]) (ty:=51) rfl (show Ao _ 100011=_ from B8)) Ay))))
  ·exact fun hg=>hN1 _ (Option.some.inj hg).symm _ (Ax [(90000,90000),(100010,100010),(100011,100011)] rfl rfl rfl (Ah (An (E:=TP.E) _ false) (Ah (An (E:=TP.E) _ false) (oR (oR (oR (Ah (Cl (E:=TP.E) (id:=90000) (l':=a) rfl rfl) (oR (oR (Ah (An (E:=TP.E) _ false) (oR (oR A2))))))))))) (A0 (Cg (E:=TP.E) (ty:=51) (l':=a) rfl (show Ao _ 90000=_ from B8)) (A0 (Ba (cs:=[Aa d,Aa f]) (ty:=51) rfl (show Ao _ 100010=_ from B8)) (A0 (Ba (cs:=[Aa g,Aa i]) (ty:=51) rfl (show Ao _ 100011=_ from B8)) Ay))))
 ·refine Aq fun w aa=> ?_
  have lh174:=Wo aa
  refine imp (fC (hx:=rfl) (E:=TP.E) (ty:=51) (l:=a) (cmp:=(fun x y=>N6 n x y d f)) rfl TP.ok vZ Ad9 tW rfl B8 (eT (.inr ⟨_,_,_,_,rfl,by decide,B8,by first|rfl|simp [Ap,clean,Aj],rfl⟩) iU) (fun x y z h=>Al0 h) aa) ?_
  refine imp gP ?_
  refine Hm fun t0 e0=> ?_
  exact fun hg=>dK n k j o p q d f g i R N0 (fun r e=>hR r (e0.trans (congrArg Sum.inr e))) (fun y e=>hN0 y (e0.trans (congrArg Sum.inr e))) n _ hg (Ax [(90000,90000),(100010,100010),(100011,100011)] rfl rfl rfl (Ah (An (E:=TP.E) _ false) (Ah (An (E:=TP.E) _ false) (oR (oR (oR (Ah (Cl (E:=TP.E) (id:=90000) (l':=w) (by first|rfl|omega|(simp;done)|(simp;omega)) rfl) (oR (oR (oR A2))))))))) (A0 (Cg (E:=TP.E) (ty:=51) (l':=w) rfl (show Ao _ 90000=_ from B8)) (A0 (Ba (cs:=[Aa d,Aa f]) (ty:=51) rfl (show Ao _ 100010=_ from B8)) (A0 (Ba (cs:=[Aa g,Aa i]) (ty:=51) rfl (show Ao _ 100011=_ from B8)) Ay))))
theorem fM (n:Nat) (b a:List TP) (c:Bool) (d f g i j l o:Int) {t:((Int)⊕Fi)} (R:AV→Mem→Prop) (N0:St→Prop) (hR:∀r:Fi,t=(.inr r)→∀u m,B5 ((Ae r)) u m→R u m) (hN0:∀y:Int,t=(.inl y)→∀s':St,Bb KK 127 0 s' (H4 (Ai TP.E b) (Ai TP.E a) c d y [])→N0 s') (k:Nat) (x:Int×List TP) (hx:A7 (fun y:Int×List TP=>Gx n b a c d f g i j l o y.1 y.2) k x=some t) {s:St} (hw:Bb KK 127 0 s (Ka (Ai TP.E b) (Ai TP.E a) c (B3 TP.E 90000 x.2) d f (Ai TP.E a) g x.1 [(90000,B9 TP.E 51 x.2),(100010,some ⟨[Aa i,Aa j],51⟩),(100011,some ⟨[Aa l,Aa o],51⟩)])):Bu pg KK 127 0 (.loop Qe) s (Qj R N0):=
 wC R N0 (σ:=Nat×(Int×List TP)) (fun z=>A7 (fun y:Int×List TP=>Gx n b a c d f g i j l o y.1 y.2) z.1 z.2=some t) (fun z=>(Ai TP.E b)) (fun z=>(Ai TP.E a)) (fun z=>c) (fun z=>(B3 TP.E 90000 z.2.2)) (fun z=>d) (fun z=>f) (fun z=>(Ai TP.E a)) (fun z=>g) (fun z=>z.2.1) (fun z=>[(90000,B9 TP.E 51 z.2.2),(100010,some ⟨[Aa i,Aa j],51⟩),(100011,some ⟨[Aa l,Aa o],51⟩)]) (fun z=>z.1) (by
  rintro ⟨k,y⟩ h
  cases k with
  |zero=>exact (Bi h).elim
  |succ k=>
   obtain ⟨u,q,v,p⟩:=Bh h
   exact dR n b a c d f g i j l o y.1 y.2 R N0 _ (fun r e=>hR r (p _ e).symm) (fun y' e=>hN0 y' (p _ e).symm) (fun y' e s' hw=>⟨(k,y'),v _ e,Nat.lt_succ_self k,hw⟩) q) (k,x) hx hw
theorem pV (n:Nat) (e d:List TP) (f:Bool) (g h:Int) {t:(Int)⊕Fi} (R:AV→Mem→Prop) (N0:St→Prop) (hR:∀r:Fi,t=(.inr r)→∀u m,B5 ((Ae r)) u m→R u m) (hN0:∀y:Int,t=(.inl y)→∀s':St,Bb KK 127 0 s' (H4 (Ai TP.E e) (Ai TP.E d) f g y [])→N0 s'):K6 n e d f g h=some t→bQ (Ai TP.E e) (Ai TP.E d) f g h [] R N0:=by
 unfold K6 bQ
 refine As (fun _=> ?_) (fun _=> ?_)
 ·refine Aq fun a i=> ?_
  refine imp (Cu (show _=some ((AV.B6 [Aa a.X,Aa a.Y] 0),[]) from (Bo (E:=TP.E) rfl i))) ?_
  refine imp (Cu (show _=some ((AV.agg [Aa a.X,Aa a.Y]),[]) from rfl)) ?_
  refine imp Bw ?_
  iterate 2 refine imp Ag ?_
  refine Aq fun c j=> ?_
  refine imp (Ix (Oy j)) ?_
  refine imp Bw ?_
  iterate 2 refine imp Ag ?_
  refine imp (Bz (sz:=2) Bf Bf rfl rfl (cs:=[Aa (0),Aa (0)]) (cs':=[Aa a.X,Aa a.Y]) (ty:=51) (by first|rfl|(rw [Dw (by first|rfl|simp [Dx]|simp [A3])];first|rfl|(simp (disch:=first|decide|assumption) only [lk]))) rfl rfl) ?_
  refine imp (Bz (sz:=2) Bf Bf rfl rfl (cs:=[Aa (0),Aa (0)]) (cs':=[Aa c.X,Aa c.Y]) (ty:=51) (by first|rfl|(rw [Dw (by first|rfl|simp [Dx]|simp [A3])];first|rfl|(simp (disch:=first|decide|assumption) only [lk]))) rfl rfl) ?_
  refine imp (Dd Bf) ?_
  refine iq (AV.agg [Aa a.X,Aa a.Y]) (Dz (b:=⟨[Aa a.X,Aa a.Y],51⟩) B8 rfl) ?_
  refine imp Bw ?_
  iterate 2 refine imp Ag ?_
  refine iq (AV.agg [Aa c.X,Aa c.Y]) (Dz (b:=⟨[Aa c.X,Aa c.Y],51⟩) B8 rfl) ?_
  refine imp Bw ?_
  iterate 2 refine imp Ag ?_
  refine imp (Dm (show _=some ((Eu TP.E 100016 ([a,c]:List TP)),[(100016,some ⟨Az TP.E ([a,c]:List TP),51⟩)]) from rfl)) ?_
  refine iq (Aa (d.length:Int)) rfl ?_
  refine imp Ag ?_
  exact fun hg=>fM n e d f g h (d.length:Int) a.X a.Y c.X c.Y R N0 hR hN0 n _ hg (Ax [(90000,100016),(100010,100010),(100011,100011)] rfl rfl rfl (Ah (An (E:=TP.E) _ false) (Ah (An (E:=TP.E) _ false) (oR (oR (oR (Ah (eQ (E:=TP.E) (id:=100016) (l':=([a,c]:List TP)) (by simp) rfl rfl) (oR (oR (Ah (An (E:=TP.E) _ false) (oR (oR A2))))))))))) (A0 (Cg (E:=TP.E) (ty:=51) (l':=([a,c]:List TP)) rfl (Eq.trans (show Ao _ 100016=_ from B8) (Eq.symm (C7 (by simp))))) (A0 (Ba (cs:=[Aa a.X,Aa a.Y]) (ty:=51) rfl (show Ao _ 100010=_ from B8)) (A0 (Ba (cs:=[Aa c.X,Aa c.Y]) (ty:=51) rfl (show Ao _ 100011=_ from B8)) Ay))))
 ·exact Ct hR rfl rfl
theorem sX (n:Nat) (a b:List TP) (c:Bool) (d:Int) {t:Fi} (R:AV→Mem→Prop) (hR:∀r:Fi,t=r→∀u m,B5 ((Ae r)) u m→R u m) (k:Nat) (x:Int) (hx:A7 (fun y:Int=>K6 n a b c d y) k x=some t) {s:St} (hw:Bb KK 127 0 s (H4 (Ai TP.E a) (Ai TP.E b) c d x [])):Bu pg KK 127 0 (.loop Ly) s (Yr R):=
 Ai3 R (σ:=Nat×(Int)) (fun z=>A7 (fun y:Int=>K6 n a b c d y) z.1 z.2=some t) (fun z=>(Ai TP.E a)) (fun z=>(Ai TP.E b)) (fun z=>c) (fun z=>d) (fun z=>z.2) (fun z=>[]) (fun z=>z.1) (by
  rintro ⟨k,y⟩ h
  cases k with
  |zero=>exact (Bi h).elim
  |succ k=>
   obtain ⟨u,f,g,i⟩:=Bh h
   exact pV n a b c d y R _ (fun r e=>hR r (i _ e).symm) (fun y' e s' hw=>⟨(k,y'),g _ e,Nat.lt_succ_self k,hw⟩) f) (k,x) hx hw
theorem Af5 (n:Nat) (a b:List TP) {t:Fi} (R:AV→Mem→Prop) (hR:∀r:Fi,t=r→∀u m,B5 ((Ae r)) u m→R u m):jG n a b=some t→Aha (Ai TP.E a) (Ai TP.E b) R:=by
 unfold jG Aha
 refine iq (Aa (a.length:Int)) rfl ?_
 refine imp Ag ?_
 exact fun hg=>sX n a b false (a.length:Int) R hR n _ hg (Ax [] rfl rfl rfl (Ah (An (E:=TP.E) _ false) (Ah (An (E:=TP.E) _ false) (oR (oR (oR A2))))) Ay)
theorem Ah9 {n:Nat} {a:List TP} {b:List TP} {t:Fi} (h:jG n a b=some t):Cj pg KK.gl 308 [Ai TP.E a,Ai TP.E b] ((Ae t)):=
 A1 (by first|rfl|simp [Ap,clean,Aj,En.Cs]) (by first|rfl|simp [Ap,clean,Aj,En.Cs]) (wV (Ai TP.E a) (Ai TP.E b) _ (Af5 n a b (B5 ((Ae t))) (fun r e u m h=>by rw [e];exact h) h))
theorem eZ (n:Nat) (b c:List TP) (d:Bool) (c5 a e h i:Int) {t:(Int)⊕((Int)⊕Gv)} (R:AV→Mem→Prop) (N0 N1:St→Prop) (hR:∀r:Gv,t=(.inr (.inr r))→∀u m,B5 ((AV.Bn [Ae r.1,Aa r.2])) u m→R u m) (hN0:∀y:Int,t=(.inr (.inl y))→∀s':St,Bb KK 64 0 s' (Lo (Ai TP.E b) (Ai TP.E c) d c5 e y [])→N0 s') (hN1:∀y:Int,t=(.inl y)→∀s':St,Bb KK 64 0 s' (J9 (Ai TP.E b) (Ai TP.E c) d c5 a e a h y [])→N1 s'):Gu n b c d c5 a e h i=some t→O6 (Ai TP.E b) (Ai TP.E c) d c5 a e a h i [] R N0 N1:=by
 unfold Gu O6
 refine As (fun _=> ?_) (fun _=> ?_)
 ·refine Aq fun f j=> ?_
  refine iq (AV.B6 [Aa f.X,Aa f.Y] 0) (Bo (E:=TP.E) rfl j) ?_
  refine iq (AV.agg [Aa f.X,Aa f.Y]) rfl ?_
  refine imp Bw ?_
  iterate 2 refine imp Ag ?_
  refine Aq fun q k=> ?_
  refine imp (Av (Oy k)) ?_
  refine imp Bw ?_
  iterate 2 refine imp Ag ?_
  refine Aq fun g l=> ?_
  refine iq (AV.B6 [Aa g.X,Aa g.Y] 0) (Bo (E:=TP.E) rfl l) ?_
  refine iq (AV.agg [Aa g.X,Aa g.Y]) rfl ?_
  refine imp Bw ?_
  iterate 2 refine imp Ag ?_
  refine Aq fun s o=> ?_
  refine imp (Av (Oy o)) ?_
  refine imp Bw ?_
  iterate 2 refine imp Ag ?_
  refine Aq fun v p=> ?_
  refine imp (Av (Ah0 p)) ?_
  refine imp Dn ?_
  refine As (fun _=> ?_) (fun _=> ?_)
  ·exact fun hg=>D7 rfl (hR _ (Option.some.inj hg).symm) (fS (fS By))
  ·exact fun hg=>hN1 _ (Option.some.inj hg).symm _ (Ax [] rfl rfl rfl (Ah (An (E:=TP.E) _ false) (Ah (An (E:=TP.E) _ false) (oR (oR (oR (oR (oR (oR (oR A2))))))))) Ay)
 ·exact fun hg=>hN0 _ (Option.some.inj hg).symm _ (Ax [] rfl rfl rfl (Ah (An (E:=TP.E) _ false) (Ah (An (E:=TP.E) _ false) (oR (oR (oR (oR A2)))))) Ay)
theorem cH (n:Nat) (b c:List TP) (d:Bool) (c5 a f g:Int) {t:((Int)⊕Gv)} (R:AV→Mem→Prop) (N0:St→Prop) (hR:∀r:Gv,t=(.inr r)→∀u m,B5 ((AV.Bn [Ae r.1,Aa r.2])) u m→R u m) (hN0:∀y:Int,t=(.inl y)→∀s':St,Bb KK 64 0 s' (Lo (Ai TP.E b) (Ai TP.E c) d c5 f y [])→N0 s') (k:Nat) (x:Int) (hx:A7 (fun y:Int=>Gu n b c d c5 a f g y) k x=some t) {s:St} (hw:Bb KK 64 0 s (J9 (Ai TP.E b) (Ai TP.E c) d c5 a f a g x [])):Bu pg KK 64 0 (.loop Pg) s (P9 R N0):=
 vL R N0 (σ:=Nat×(Int)) (fun z=>A7 (fun y:Int=>Gu n b c d c5 a f g y) z.1 z.2=some t) (fun z=>(Ai TP.E b)) (fun z=>(Ai TP.E c)) (fun z=>d) (fun z=>c5) (fun z=>a) (fun z=>f) (fun z=>a) (fun z=>g) (fun z=>z.2) (fun z=>[]) (fun z=>z.1) (by
  rintro ⟨k,y⟩ h
  cases k with
  |zero=>exact (Bi h).elim
  |succ k=>
   obtain ⟨u,j,l,i⟩:=Bh h
   exact eZ n b c d c5 a f g y R N0 _ (fun r e=>hR r (i _ e).symm) (fun y' e=>hN0 y' (i _ e).symm) (fun y' e s' hw=>⟨(k,y'),l _ e,Nat.lt_succ_self k,hw⟩) j) (k,x) hx hw
theorem rW (n:Nat) (b a:List TP) (c:Bool) (c5 d e:Int) {t:(Int)⊕Gv} (R:AV→Mem→Prop) (N0:St→Prop) (hR:∀r:Gv,t=(.inr r)→∀u m,B5 ((AV.Bn [Ae r.1,Aa r.2])) u m→R u m) (hN0:∀y:Int,t=(.inl y)→∀s':St,Bb KK 64 0 s' (Lo (Ai TP.E b) (Ai TP.E a) c c5 d y [])→N0 s'):Jz n b a c c5 d e=some t→Zc (Ai TP.E b) (Ai TP.E a) c c5 d e [] R N0:=by
 unfold Jz Zc
 refine As (fun _=> ?_) (fun _=> ?_)
 ·refine iq (Aa (a.length:Int)) rfl ?_
  refine imp Ag ?_
  exact fun hg=>cH n b a c c5 e d (a.length:Int) R N0 hR hN0 n _ hg (Ax [] rfl rfl rfl (Ah (An (E:=TP.E) _ false) (Ah (An (E:=TP.E) _ false) (oR (oR (oR (oR (oR (oR (oR A2))))))))) Ay)
 ·refine Aq fun j f=> ?_
  refine imp (Av (Ah8 f)) ?_
  refine Aq fun k g=> ?_
  refine imp (Av (Ah8 g)) ?_
  refine Aq fun l h=> ?_
  refine imp (Av (Ah9 h)) ?_
  refine imp Dn ?_
  refine As (fun _=> ?_) (fun _=> ?_)
  ·exact fun hg=>D7 rfl (hR _ (Option.some.inj hg).symm) (fS (fS By))
  ·refine Aq fun o i=> ?_
   refine imp (Av (Ah9 i)) ?_
   refine imp Dn ?_
   exact fun hg=>D7 rfl (hR _ (Option.some.inj hg).symm) (fS (fS By))
theorem r8 (n:Nat) (a b:List TP) (c:Bool) (c5 d:Int) {t:Gv} (R:AV→Mem→Prop) (hR:∀r:Gv,t=r→∀u m,B5 ((AV.Bn [Ae r.1,Aa r.2])) u m→R u m) (k:Nat) (x:Int) (hx:A7 (fun y:Int=>Jz n a b c c5 d y) k x=some t) {s:St} (hw:Bb KK 64 0 s (Lo (Ai TP.E a) (Ai TP.E b) c c5 d x [])):Bu pg KK 64 0 (.loop Ri) s (Zi R):=
 Aj1 R (σ:=Nat×(Int)) (fun z=>A7 (fun y:Int=>Jz n a b c c5 d y) z.1 z.2=some t) (fun z=>(Ai TP.E a)) (fun z=>(Ai TP.E b)) (fun z=>c) (fun z=>c5) (fun z=>d) (fun z=>z.2) (fun z=>[]) (fun z=>z.1) (by
  rintro ⟨k,y⟩ h
  cases k with
  |zero=>exact (Bi h).elim
  |succ k=>
   obtain ⟨u,f,g,i⟩:=Bh h
   exact rW n a b c c5 d y R _ (fun r e=>hR r (i _ e).symm) (fun y' e s' hw=>⟨(k,y'),g _ e,Nat.lt_succ_self k,hw⟩) f) (k,x) hx hw
theorem rS (n:Nat) (a b:List TP) (c:Bool) (c5:Int) (Ll:List (List TP)) (d f:Int) {t:(Int)⊕Gv} (R:AV→Mem→Prop) (N0:St→Prop) (hR:∀r:Gv,t=(.inr r)→∀u m,B5 ((AV.Bn [Ae r.1,Aa r.2])) u m→R u m) (hN0:∀y:Int,t=(.inl y)→∀s':St,Bb KK 64 0 s' (Sb (Ai TP.E a) (Ai TP.E b) c c5 (Ai (Ci TP.E) Ll) d y [])→N0 s'):Jw n a b c c5 Ll d f=some t→bM (Ai TP.E a) (Ai TP.E b) c c5 (Ai (Ci TP.E) Ll) d f [] R N0:=by
 unfold Jw bM
 refine As (fun _=> ?_) (fun _=> ?_)
 ·refine Aq fun g h=> ?_
  refine iq (AV.B6 [Ai TP.E g] 0) (Bo (E:=(Ci TP.E)) rfl h) ?_
  refine iq (Ai TP.E g) rfl ?_
  refine Aq fun j i=> ?_
  refine imp (Av (Ahv i)) ?_
  refine imp Ag ?_
  refine As (fun _=> ?_) (fun _=> ?_)
  ·exact fun hg=>D7 rfl (hR _ (Option.some.inj hg).symm) (fS (fS By))
  ·exact fun hg=>hN0 _ (Option.some.inj hg).symm _ (Ax [] rfl rfl rfl (Ah (An (E:=TP.E) _ false) (Ah (An (E:=TP.E) _ false) (oR (oR (Ah (An (E:=(Ci TP.E)) _ false) (oR (oR A2))))))) Ay)
 ·refine iq (Aa (a.length:Int)) rfl ?_
  refine imp Ag ?_
  refine Hm fun k e0=> ?_
  exact fun hg=>r8 n a b c c5 (a.length:Int) R (fun r e=>hR r (e0.trans (congrArg Sum.inr e))) n _ hg (Ax [] rfl rfl rfl (Ah (An (E:=TP.E) _ false) (Ah (An (E:=TP.E) _ false) (oR (oR (oR (oR A2)))))) Ay)
theorem pY (n:Nat) (a b:List TP) (c:Bool) (c5:Int) (Ll:List (List TP)) (d:Int) {t:Gv} (R:AV→Mem→Prop) (hR:∀r:Gv,t=r→∀u m,B5 ((AV.Bn [Ae r.1,Aa r.2])) u m→R u m) (k:Nat) (x:Int) (hx:A7 (fun y:Int=>Jw n a b c c5 Ll d y) k x=some t) {s:St} (hw:Bb KK 64 0 s (Sb (Ai TP.E a) (Ai TP.E b) c c5 (Ai (Ci TP.E) Ll) d x [])):Bu pg KK 64 0 (.loop bA) s (aV R):=
 Ala R (σ:=Nat×(Int)) (fun z=>A7 (fun y:Int=>Jw n a b c c5 Ll d y) z.1 z.2=some t) (fun z=>(Ai TP.E a)) (fun z=>(Ai TP.E b)) (fun z=>c) (fun z=>c5) (fun z=>(Ai (Ci TP.E) Ll)) (fun z=>d) (fun z=>z.2) (fun z=>[]) (fun z=>z.1) (by
  rintro ⟨k,y⟩ h
  cases k with
  |zero=>exact (Bi h).elim
  |succ k=>
   obtain ⟨u,f,g,i⟩:=Bh h
   exact rS n a b c c5 Ll d y R _ (fun r e=>hR r (i _ e).symm) (fun y' e s' hw=>⟨(k,y'),g _ e,Nat.lt_succ_self k,hw⟩) f) (k,x) hx hw
theorem Aeo (n:Nat) (a b:List TP) {t:Gv} (R:AV→Mem→Prop) (hR:∀r:Gv,t=r→∀u m,B5 ((AV.Bn [Ae r.1,Aa r.2])) u m→R u m):sC n a b=some t→Acq (Ai TP.E a) (Ai TP.E b) R:=by
 unfold sC Acq
 refine imp (Dm (show _=some ((Eu (Ci TP.E) 4 ([a,b]:List (List TP))),[(4,some ⟨Az (Ci TP.E) ([a,b]:List (List TP)),314⟩)]) from rfl)) ?_
 refine imp (Ds (show _=some ((Aa (([a,b]:List (List TP)).length:Int)),[]) from mW)) ?_
 refine imp Ag ?_
 exact fun hg=>pY n a b false (0) ([a,b]:List (List TP)) (([a,b]:List (List TP)).length:Int) R hR n _ hg (Ax [] rfl rfl rfl (Ah (An (E:=TP.E) _ false) (Ah (An (E:=TP.E) _ false) (oR (oR (Ah (Sf (E:=(Ci TP.E)) (ty:=314) (l':=([a,b]:List (List TP))) rfl B8 rfl) (oR (oR A2))))))) Ay)
theorem Anp {n:Nat} {a:List TP} {b:List TP} {t:Gv} (h:sC n a b=some t):Cj pg KK.gl 251 [Ai TP.E a,Ai TP.E b] ((AV.Bn [Ae t.1,Aa t.2])):=
 A1 (by first|rfl|simp [Ap,clean,Aj,En.Cs]) (by first|rfl|simp [Ap,clean,Aj,En.Cs]) (xJ (Ai TP.E a) (Ai TP.E b) _ (Aeo n a b (B5 ((AV.Bn [Ae t.1,Aa t.2]))) (fun r e u m h=>by rw [e];exact h) h))
theorem rK (n:Nat) (i:Bool) (c5:Int) (Ll:List Al) (j:Int) (f:List TP) (a c:Int) (g:List TP) (d e k:Int) {t:(Int)⊕Qp} (R:AV→Mem→Prop) (N0:St→Prop) (hR:∀r:Qp,t=(.inr r)→∀u m,B5 ((AV.Bn [Ae r.1,Aa r.2])) u m→R u m) (hN0:∀y:Int,t=(.inl y)→∀s':St,Bb KK 52 0 s' (Sc i c5 (Ai Al.E Ll) j y [(0,some ⟨[Ai TP.E f,Aa a,Aa c],316⟩),(1,some ⟨[Ai TP.E g,Aa d,Aa e],316⟩)])→N0 s'):J2 n i c5 Ll j f a c g d e k=some t→Zm i c5 (Ai Al.E Ll) j k [(0,some ⟨[Ai TP.E f,Aa a,Aa c],316⟩),(1,some ⟨[Ai TP.E g,Aa d,Aa e],316⟩)] R N0:=by
 unfold J2 Zm
 refine As (fun _=> ?_) (fun _=> ?_)
 ·refine Aq fun h l=> ?_
  refine iq (AV.B6 [Ai TP.E h.D0,Aa h.Hw,Aa h.D4] 0) (Bo (E:=Al.E) rfl l) ?_
  refine iq (AV.agg [Ai TP.E h.D0,Aa h.Hw,Aa h.D4]) rfl ?_
  refine imp Vb ?_
  iterate 2 refine imp Ag ?_
  refine imp (Dd rfl) ?_
  refine Aq fun q o=> ?_
  refine imp (Av (Ahw o)) ?_
  refine imp Ag ?_
  refine As (fun _=> ?_) (fun _=> ?_)
  ·exact fun hg=>D7 rfl (hR _ (Option.some.inj hg).symm) (fS (fS By))
  ·exact fun hg=>hN0 _ (Option.some.inj hg).symm _ (Ax [(0,0),(1,1)] rfl rfl rfl (oR (oR (oR (oR (Ah (An (E:=Al.E) _ false) (oR (oR A2))))))) (A0 (Ba (cs:=[Ai TP.E f,Aa a,Aa c]) (ty:=316) (by simp [clean,Ap,Aj]) (show Ao _ 0=_ from B8)) (A0 (Ba (cs:=[Ai TP.E g,Aa d,Aa e]) (ty:=316) (by simp [clean,Ap,Aj]) (show Ao _ 1=_ from B8)) Ay)))
 ·refine iq (Ai TP.E f) (Cm (b:=⟨[Ai TP.E f,Aa a,Aa c],316⟩) B8 rfl) ?_
  refine iq (Ai TP.E g) (Cm (b:=⟨[Ai TP.E g,Aa d,Aa e],316⟩) B8 rfl) ?_
  refine Aq fun s p=> ?_
  refine imp (Av (Anp p)) ?_
  refine imp Ec ?_
  refine imp Dn ?_
  refine imp Ag ?_
  refine As (fun _=> ?_) (fun _=> ?_)
  ·refine As (fun _=> ?_) (fun _=> ?_)
   ·refine iq (Aa a) (Cm (b:=⟨[Ai TP.E f,Aa a,Aa c],316⟩) B8 rfl) ?_
    refine imp Ag ?_
    refine iq (Aa d) (Cm (b:=⟨[Ai TP.E g,Aa d,Aa e],316⟩) B8 rfl) ?_
    refine imp Ag ?_
    refine iq (Aa (if d>a then d else a)) Bf ?_
    refine imp Ag ?_
    refine iq (Aa c) (Cm (b:=⟨[Ai TP.E f,Aa a,Aa c],316⟩) B8 rfl) ?_
    refine imp Ag ?_
    refine iq (Aa e) (Cm (b:=⟨[Ai TP.E g,Aa d,Aa e],316⟩) B8 rfl) ?_
    refine imp Ag ?_
    refine iq (Aa (if e<c then e else c)) Bf ?_
    refine imp Ag ?_
    exact fun hg=>D7 rfl (hR _ (Option.some.inj hg).symm) (fS (fS By))
   ·exact fun hg=>D7 rfl (hR _ (Option.some.inj hg).symm) (fS (fS By))
  ·exact fun hg=>D7 rfl (hR _ (Option.some.inj hg).symm) (fS (fS By))
theorem pG (n:Nat) (a:Bool) (c5:Int) (Ll:List Al) (b:Int) (c:List TP) (d f:Int) (g:List TP) (i j:Int) {t:Qp} (R:AV→Mem→Prop) (hR:∀r:Qp,t=r→∀u m,B5 ((AV.Bn [Ae r.1,Aa r.2])) u m→R u m) (k:Nat) (x:Int) (hx:A7 (fun y:Int=>J2 n a c5 Ll b c d f g i j y) k x=some t) {s:St} (hw:Bb KK 52 0 s (Sc a c5 (Ai Al.E Ll) b x [(0,some ⟨[Ai TP.E c,Aa d,Aa f],316⟩),(1,some ⟨[Ai TP.E g,Aa i,Aa j],316⟩)])):Bu pg KK 52 0 (.loop bE) s (bP R):=
 Aj7 R (σ:=Nat×(Int)) (fun z=>A7 (fun y:Int=>J2 n a c5 Ll b c d f g i j y) z.1 z.2=some t) (fun z=>a) (fun z=>c5) (fun z=>(Ai Al.E Ll)) (fun z=>b) (fun z=>z.2) (fun z=>[(0,some ⟨[Ai TP.E c,Aa d,Aa f],316⟩),(1,some ⟨[Ai TP.E g,Aa i,Aa j],316⟩)]) (fun z=>z.1) (by
  rintro ⟨k,y⟩ h
  cases k with
  |zero=>exact (Bi h).elim
  |succ k=>
   obtain ⟨u,l,o,p⟩:=Bh h
   exact rK n a c5 Ll b c d f g i j y R _ (fun r e=>hR r (p _ e).symm) (fun y' e s' hw=>⟨(k,y'),o _ e,Nat.lt_succ_self k,hw⟩) l) (k,x) hx hw
theorem Ae9 (n:Nat) (a b:Al) {t:Qp} (R:AV→Mem→Prop) (hR:∀r:Qp,t=r→∀u m,B5 ((AV.Bn [Ae r.1,Aa r.2])) u m→R u m):pP n a b=some t→Ag8 (Ai TP.E a.D0) a.Hw a.D4 (Ai TP.E b.D0) b.Hw b.D4 R:=by
 unfold pP Ag8
 refine imp (Dd rfl) ?_
 refine imp (Dd rfl) ?_
 refine imp (Dm (show _=some ((Eu Al.E 6 ([a,b]:List Al)),[(6,some ⟨Az Al.E ([a,b]:List Al),316⟩)]) from rfl)) ?_
 refine imp (Ds (show _=some ((Aa (([a,b]:List Al).length:Int)),[]) from mW)) ?_
 refine imp Ag ?_
 exact fun hg=>pG n false (0) ([a,b]:List Al) (([a,b]:List Al).length:Int) a.D0 a.Hw a.D4 b.D0 b.Hw b.D4 R hR n _ hg (Ax [(0,0),(1,1)] rfl rfl rfl (oR (oR (oR (oR (Ah (Sf (E:=Al.E) (ty:=316) (l':=([a,b]:List Al)) rfl B8 rfl) (oR (oR A2))))))) (A0 (Ba (cs:=[Ai TP.E a.D0,Aa a.Hw,Aa a.D4]) (ty:=316) (by simp [clean,Ap,Aj]) (show Ao _ 0=_ from B8)) (A0 (Ba (cs:=[Ai TP.E b.D0,Aa b.Hw,Aa b.D4]) (ty:=316) (by simp [clean,Ap,Aj]) (show Ao _ 1=_ from B8)) Ay)))
theorem Amu {n:Nat} {a:Al} {b:Al} {t:Qp} (h:pP n a b=some t):Cj pg KK.gl 196 [AV.agg [Ai TP.E a.D0,Aa a.Hw,Aa a.D4],AV.agg [Ai TP.E b.D0,Aa b.Hw,Aa b.D4]] ((AV.Bn [Ae t.1,Aa t.2])):=
 A1 (by first|rfl|simp [Ap,clean,Aj,En.Cs]) (by first|rfl|simp [Ap,clean,Aj,En.Cs]) (zO (Ai TP.E a.D0) a.Hw a.D4 (Ai TP.E b.D0) b.Hw b.D4 _ (Ae9 n a b (B5 ((AV.Bn [Ae t.1,Aa t.2]))) (fun r e u m h=>by rw [e];exact h) h))
end Go.Proofs.YtmechmjjcgdpdaaGreatDoor
