/- A part. -/
import Derived.Test.YtmhnnmfcjdnlhaaGreatDoorX1E5
set_option linter.unusedVariables false
set_option linter.unusedSimpArgs false
set_option maxRecDepth 100000
set_option maxHeartbeats 4000000
namespace Go.Proofs.YtmhnnmfcjdnlhaaGreatDoor
theorem kN (n:Nat) (b:List Ab) (c d c7 e:Int) {t:(Int)⊕Wu} (R:AV→Mem→Prop) (N0:St→Prop) (hR:∀r:Wu,t=(.inr r)→∀u m,C2 ((Aa r)) u m→R u m) (hN0:∀y:Int,t=(.inl y)→∀s':St,Cl KK 19 0 s' (Tq (As Ab.E b) (AV.fn 64 [AV.Dn [Aa c] 0]) d c7 y [])→N0 s'):Pu n b c d c7 e=some t→eK (As Ab.E b) (AV.fn 64 [AV.Dn [Aa c] 0]) d c7 e [] R N0:=by
 unfold Pu eK
 refine Aq (fun _=> ?_) (fun _=> ?_)
 ·refine At fun a f=> ?_
  refine iq (AV.Dn [Aa a.Ac,Aa a.Ak,Aa a.Aj,Aa a.Ad,Aa a.Ay,Aa a.Br] 0) (C5 (E:=Ab.E) rfl f) ?_
  refine iq (AV.agg [Aa a.Ac,Aa a.Ak,Aa a.Aj,Aa a.Ad,Aa a.Ay,Aa a.Br]) rfl ?_
  refine imp Fp ?_
  iterate 6 refine imp Ai ?_
  refine At fun h g=> ?_
  refine imp I9 ?_
  refine imp (Nr rfl) ?_
  refine imp (Nc (Ahb g)) ?_
  refine imp Eh ?_
  refine Aq (fun _=> ?_) (fun _=> ?_)
  ·exact C9 hR rfl rfl
  ·exact fun hg=>hN0 _ (Option.some.inj hg).symm _ (Bc [] rfl rfl rfl (A9 (Bz (E:=Ab.E) _ false) (A9 (Pe (L5 _) (by simp [clean,Av,Al])) (oR (oR (oR Bn))))) Bb)
 ·exact C9 hR rfl rfl
theorem mU (n:Nat) (a:List Ab) (b c c7:Int) {t:Wu} (R:AV→Mem→Prop) (hR:∀r:Wu,t=r→∀u m,C2 ((Aa r)) u m→R u m) (k:Nat) (x:Int) (hx:Bt (fun y:Int=>Pu n a b c c7 y) k x=some t) {s:St} (hw:Cl KK 19 0 s (Tq (As Ab.E a) (AV.fn 64 [AV.Dn [Aa b] 0]) c c7 x [])):C6 pg KK 19 0 (.loop dJ) s (eC R):=
 Adw R (σ:=Nat×(Int)) (fun z=>Bt (fun y:Int=>Pu n a b c c7 y) z.1 z.2=some t) (fun z=>(As Ab.E a)) (fun z=>(AV.fn 64 [AV.Dn [Aa b] 0])) (fun z=>c) (fun z=>c7) (fun z=>z.2) (fun z=>[]) (fun z=>z.1) (by
  rintro ⟨k,y⟩ h
  cases k with
  |zero=>exact (Cz h).elim
  |succ k=>
   obtain ⟨u,d,f,g⟩:=Cv h
   exact kN n a b c c7 y R _ (fun r e=>hR r (g _ e).symm) (fun y' e s' hw=>⟨(k,y'),f _ e,Nat.lt_succ_self k,hw⟩) d) (k,x) hx hw
theorem zM (n:Nat) (a:List Ab) (b:Int) {t:Wu} (R:AV→Mem→Prop) (hR:∀r:Wu,t=r→∀u m,C2 ((Aa r)) u m→R u m):g63 n a b=some t→F63 (As Ab.E a) (AV.fn 64 [AV.Dn [Aa b] 0]) R:=by
 unfold g63 F63
 refine iq (Aa (a.length:Int)) rfl ?_
 refine imp Ai ?_
 exact fun hg=>mU n a b (0) (a.length:Int) R hR n _ hg (Bc [] rfl rfl rfl (A9 (Bz (E:=Ab.E) _ false) (A9 (Pe (L5 _) (by simp [clean,Av,Al])) (oR (oR (oR Bn))))) Bb)
theorem Ag1 {n:Nat} {a:List Ab} {b:Int} {t:Wu} (h:g63 n a b=some t):Dc pg KK.gl 63 [As Ab.E a,AV.fn 64 [AV.Dn [Aa b] 0]] ((Aa t)):=
 A1 (by first|rfl|simp [Av,clean,Al,En.Di]) (by first|rfl|simp [Av,clean,Al,En.Di]) (pR (As Ab.E a) (AV.fn 64 [AV.Dn [Aa b] 0]) _ (zM n a b (C2 ((Aa t))) (fun r e u m h=>by rw [e];exact h) h))
theorem fJ (n:Nat) (c3 c4 W3:Int) (h:ByteArray) (j d:Int) (k:ByteArray) (p q:List Ab) (g s v e w x:Int) (z:ByteArray) (aa ab ad ae af ag ah ai:Int) (aj:List Ab) (ak c:Int) (f:List Ab) {t:(Int×List Ab)⊕U9} (R:AV→Mem→Prop) (N0:St→Prop) (hR:∀r:U9,t=(.inr r)→∀u m,Hs Ab.E 47 r.1 [Value.int .i64 r.2] u m→R u m) (hN0:∀y:Int×List Ab,t=(.inl y)→∀s':St,Cl KK 141 0 s' (Tf AV.B1 c3 c4 (B7 Ab.E 90000 y.2) W3 y.1 [(90000,C7 Ab.E 47 y.2),(0,some ⟨[Az h,Aa j,Aa d,Az k,As Ab.E p,As Ab.E q,Aa g,Aa s,Aa v,Aa e,Aa w,Aa x,Az z,Aa aa,Aa ab,Aa ad,Aa ae,Aa af,Aa ag,Aa ah,Aa ai,As Ab.E aj],72⟩),(89,some ⟨[Aa ak],3⟩)])→N0 s'):Kg n c3 c4 W3 h j d k p q g s v e w x z aa ab ad ae af ag ah ai aj ak c f=some t→dH AV.B1 c3 c4 (B7 Ab.E 90000 f) W3 c [(90000,C7 Ab.E 47 f),(0,some ⟨[Az h,Aa j,Aa d,Az k,As Ab.E p,As Ab.E q,Aa g,Aa s,Aa v,Aa e,Aa w,Aa x,Az z,Aa aa,Aa ab,Aa ad,Aa ae,Aa af,Aa ag,Aa ah,Aa ai,As Ab.E aj],72⟩),(89,some ⟨[Aa ak],3⟩)] R N0:=by
 unfold Kg dH
 refine Aq (fun _=> ?_) (fun _=> ?_)
 ·refine At fun a al=> ?_
  refine iq (AV.ptr 90000 (((c:Int).toNat)*6+0)) (G1 (E:=Ab.E) rfl al) ?_
  refine iq (AV.ptr 90000 (((c:Int).toNat)*6+0)) rfl ?_
  refine iq (AV.ptr 90000 (((c:Int).toNat)*6+0)) rfl ?_
  refine iq (AV.ptr 90000 (((c:Int).toNat)*6+0)) rfl ?_
  refine iq (Aa a.Ac) (Km (E:=Ab.E) (l:=f) (ty:=47) (o:=0) (Gd (ty:=47) (by first|rfl|(simp (disch:=first|decide|assumption) only [lk])) (C0 al).2) (C0 al).2 rfl (by decide) rfl) ?_
  refine imp Ai ?_
  refine iq (Aa ak) (Cp (b:=⟨[Aa ak],3⟩) (by first|rfl|(simp (disch:=first|decide|assumption) only [lk])) rfl) ?_
  refine imp Ai ?_
  refine Aq (fun _=> ?_) (fun _=> ?_)
  ·refine iq (Aa d) (Cp (b:=⟨[Az h,Aa j,Aa d,Az k,As Ab.E p,As Ab.E q,Aa g,Aa s,Aa v,Aa e,Aa w,Aa x,Az z,Aa aa,Aa ab,Aa ad,Aa ae,Aa af,Aa ag,Aa ah,Aa ai,As Ab.E aj],72⟩) (by first|rfl|(simp (disch:=first|decide|assumption) only [lk])) rfl) ?_
   refine imp Ai ?_
   refine iq (AV.ptr 90000 (((c:Int).toNat)*6+0)) rfl ?_
   refine iq (AV.ptr 90000 (((c:Int).toNat)*6+0)) rfl ?_
   refine iq (AV.ptr 90000 (((c:Int).toNat)*6+3)) rfl ?_
   refine imp (Ks (E:=Ab.E) (l:=f) (i:=((c:Int).toNat)) (o:=3) (y:=(⟨a.Ac,a.Ak,a.Aj,d,a.Ay,a.Br⟩:Ab)) (ty:=47) Bi Bi rfl (by first|rfl|(simp (disch:=first|decide|assumption) only [lk])) (C0 al).2 rfl (by decide) rfl) ?_
   exact fun hg=>hN0 _ (Option.some.inj hg).symm _ (Bc [(90000,90000),(0,0),(89,89)] rfl rfl rfl (oR (oR (oR (oR (oR (A9 (F1 (E:=Ab.E) (id:=90000) (l':=(f.set ((c:Int).toNat) (⟨a.Ac,a.Ak,a.Aj,d,a.Ay,a.Br⟩:Ab))) (by first|rfl|omega|(simp;done)|(simp;omega)) rfl) (oR (oR Bn)))))))) (Ao (Da (E:=Ab.E) (ty:=47) (l':=(f.set ((c:Int).toNat) (⟨a.Ac,a.Ak,a.Aj,d,a.Ay,a.Br⟩:Ab))) rfl (show Am _ 90000=_ from (by first|rfl|(simp (disch:=first|decide|assumption) only [lk])))) (Ao (Aw (cs:=[Az h,Aa j,Aa d,Az k,As Ab.E p,As Ab.E q,Aa g,Aa s,Aa v,Aa e,Aa w,Aa x,Az z,Aa aa,Aa ab,Aa ad,Aa ae,Aa af,Aa ag,Aa ah,Aa ai,As Ab.E aj]) (ty:=72) (by simp [clean,Av,Al]) (show Am _ 0=_ from (by first|rfl|(simp (disch:=first|decide|assumption) only [lk])))) (Ao (Aw (cs:=[Aa ak]) (ty:=3) rfl (show Am _ 89=_ from (by first|rfl|(simp (disch:=first|decide|assumption) only [lk])))) Bb))))
  ·refine iq (Aa d) (Cp (b:=⟨[Az h,Aa j,Aa d,Az k,As Ab.E p,As Ab.E q,Aa g,Aa s,Aa v,Aa e,Aa w,Aa x,Az z,Aa aa,Aa ab,Aa ad,Aa ae,Aa af,Aa ag,Aa ah,Aa ai,As Ab.E aj],72⟩) (by first|rfl|(simp (disch:=first|decide|assumption) only [lk])) rfl) ?_
   refine imp Ai ?_
   refine iq (Aa e) (Cp (b:=⟨[Az h,Aa j,Aa d,Az k,As Ab.E p,As Ab.E q,Aa g,Aa s,Aa v,Aa e,Aa w,Aa x,Az z,Aa aa,Aa ab,Aa ad,Aa ae,Aa af,Aa ag,Aa ah,Aa ai,As Ab.E aj],72⟩) (by first|rfl|(simp (disch:=first|decide|assumption) only [lk])) rfl) ?_
   refine imp Ai ?_
   refine iq (AV.ptr 90000 (((c:Int).toNat)*6+0)) rfl ?_
   refine iq (AV.ptr 90000 (((c:Int).toNat)*6+0)) rfl ?_
   refine iq (AV.ptr 90000 (((c:Int).toNat)*6+0)) rfl ?_
   refine iq (Aa a.Ac) (Km (E:=Ab.E) (l:=f) (ty:=47) (o:=0) (Gd (ty:=47) (by first|rfl|(simp (disch:=first|decide|assumption) only [lk])) (C0 al).2) (C0 al).2 rfl (by decide) rfl) ?_
   refine imp Ai ?_
   refine iq (Aa g) (Cp (b:=⟨[Az h,Aa j,Aa d,Az k,As Ab.E p,As Ab.E q,Aa g,Aa s,Aa v,Aa e,Aa w,Aa x,Az z,Aa aa,Aa ab,Aa ad,Aa ae,Aa af,Aa ag,Aa ah,Aa ai,As Ab.E aj],72⟩) (by first|rfl|(simp (disch:=first|decide|assumption) only [lk])) rfl) ?_
   refine imp Ai ?_
   refine At fun am an=> ?_
   refine imp (An (lA an)) ?_
   refine imp Dk ?_
   iterate 2 refine imp Ai ?_
   refine iq (Aa e) (Cp (b:=⟨[Az h,Aa j,Aa d,Az k,As Ab.E p,As Ab.E q,Aa g,Aa s,Aa v,Aa e,Aa w,Aa x,Az z,Aa aa,Aa ab,Aa ad,Aa ae,Aa af,Aa ag,Aa ah,Aa ai,As Ab.E aj],72⟩) (by first|rfl|(simp (disch:=first|decide|assumption) only [lk])) rfl) ?_
   refine imp Ai ?_
   refine iq (AV.ptr 90000 (((c:Int).toNat)*6+0)) rfl ?_
   refine iq (AV.ptr 90000 (((c:Int).toNat)*6+0)) rfl ?_
   refine iq (AV.ptr 90000 (((c:Int).toNat)*6+3)) rfl ?_
   refine imp (Ks (E:=Ab.E) (l:=f) (i:=((c:Int).toNat)) (o:=3) (y:=(⟨a.Ac,a.Ak,a.Aj,IntKind.wrap .i64 (e+am.1),a.Ay,a.Br⟩:Ab)) (ty:=47) Bi Bi rfl (by first|rfl|(simp (disch:=first|decide|assumption) only [lk])) (C0 al).2 rfl (by decide) rfl) ?_
   exact fun hg=>hN0 _ (Option.some.inj hg).symm _ (Bc [(90000,90000),(0,0),(89,89)] rfl rfl rfl (oR (oR (oR (oR (oR (A9 (F1 (E:=Ab.E) (id:=90000) (l':=(f.set ((c:Int).toNat) (⟨a.Ac,a.Ak,a.Aj,IntKind.wrap .i64 (e+am.1),a.Ay,a.Br⟩:Ab))) (by first|rfl|omega|(simp;done)|(simp;omega)) rfl) (oR (oR Bn)))))))) (Ao (Da (E:=Ab.E) (ty:=47) (l':=(f.set ((c:Int).toNat) (⟨a.Ac,a.Ak,a.Aj,IntKind.wrap .i64 (e+am.1),a.Ay,a.Br⟩:Ab))) rfl (show Am _ 90000=_ from (by first|rfl|(simp (disch:=first|decide|assumption) only [lk])))) (Ao (Aw (cs:=[Az h,Aa j,Aa d,Az k,As Ab.E p,As Ab.E q,Aa g,Aa s,Aa v,Aa e,Aa w,Aa x,Az z,Aa aa,Aa ab,Aa ad,Aa ae,Aa af,Aa ag,Aa ah,Aa ai,As Ab.E aj]) (ty:=72) (by simp [clean,Av,Al]) (show Am _ 0=_ from (by first|rfl|(simp (disch:=first|decide|assumption) only [lk])))) (Ao (Aw (cs:=[Aa ak]) (ty:=3) rfl (show Am _ 89=_ from (by first|rfl|(simp (disch:=first|decide|assumption) only [lk])))) Bb))))
 ·exact fun hg=>hR _ (Option.some.inj hg).symm _ _ ⟨_,rfl,Gr (E:=Ab.E) (ty:=47) (l:=f) rfl (by first|rfl|(simp (disch:=first|decide|assumption) only [lk]))⟩
theorem J6 (n:Nat) (c3 a W3:Int) (b:ByteArray) (c d:Int) (f:ByteArray) (g i:List Ab) (j l o p q v:Int) (w:ByteArray) (aa ab ad ae af ag ah ai:Int) (aj:List Ab) (ak:Int) {t:U9} (R:AV→Mem→Prop) (hR:∀r:U9,t=r→∀u m,Hs Ab.E 47 r.1 [Value.int .i64 r.2] u m→R u m) (k:Nat) (x:Int×List Ab) (hx:Bt (fun y:Int×List Ab=>Kg n c3 a W3 b c d f g i j l o p q v w aa ab ad ae af ag ah ai aj ak y.1 y.2) k x=some t) {s:St} (hw:Cl KK 141 0 s (Tf AV.B1 c3 a (B7 Ab.E 90000 x.2) W3 x.1 [(90000,C7 Ab.E 47 x.2),(0,some ⟨[Az b,Aa c,Aa d,Az f,As Ab.E g,As Ab.E i,Aa j,Aa l,Aa o,Aa p,Aa q,Aa v,Az w,Aa aa,Aa ab,Aa ad,Aa ae,Aa af,Aa ag,Aa ah,Aa ai,As Ab.E aj],72⟩),(89,some ⟨[Aa ak],3⟩)])):C6 pg KK 141 0 (.loop Pz) s (P5 R):=
 Ac6 R (σ:=Nat×(Int×List Ab)) (fun z=>Bt (fun y:Int×List Ab=>Kg n c3 a W3 b c d f g i j l o p q v w aa ab ad ae af ag ah ai aj ak y.1 y.2) z.1 z.2=some t) (fun z=>AV.B1) (fun z=>c3) (fun z=>a) (fun z=>(B7 Ab.E 90000 z.2.2)) (fun z=>W3) (fun z=>z.2.1) (fun z=>[(90000,C7 Ab.E 47 z.2.2),(0,some ⟨[Az b,Aa c,Aa d,Az f,As Ab.E g,As Ab.E i,Aa j,Aa l,Aa o,Aa p,Aa q,Aa v,Az w,Aa aa,Aa ab,Aa ad,Aa ae,Aa af,Aa ag,Aa ah,Aa ai,As Ab.E aj],72⟩),(89,some ⟨[Aa ak],3⟩)]) (fun z=>z.1) (by
  rintro ⟨k,y⟩ h
  cases k with
  |zero=>exact (Cz h).elim
  |succ k=>
   obtain ⟨u,h1,h2,h3⟩:=Cv h
   exact fJ n c3 a W3 b c d f g i j l o p q v w aa ab ad ae af ag ah ai aj ak y.1 y.2 R _ (fun r e=>hR r (h3 _ e).symm) (fun y' e s' hw=>⟨(k,y'),h2 _ e,Nat.lt_succ_self k,hw⟩) h1) (k,x) hx hw
theorem tY (n:Nat) (a:Fj) {t:U9} (R:AV→Mem→Prop) (hR:∀r:U9,t=r→∀u m,Hs Ab.E 47 r.1 [Value.int .i64 r.2] u m→R u m):iU n a=some t→F44 a.A7 a.A3 a.Ar a.Ba (As Ab.E a.before) (As Ab.E a.later) a.Ap a.A5 a.A6 a.Au a.Bm a.B8 a.B2 a.B3 a.Bf a.Bs a.Bg a.By a.Bw a.Df a.Dg (As Ab.E a.whole) R:=by
 unfold iU F44
 refine imp (Ei rfl) ?_
 refine imp (Ei rfl) ?_
 refine imp (Ei rfl) ?_
 refine At fun c i=> ?_
 refine imp (An (Agy i)) ?_
 refine imp Dk ?_
 iterate 2 refine imp Ai ?_
 refine Aq (fun _=> ?_) (fun _=> ?_)
 ·exact fun hg=>hR _ (Option.some.inj hg).symm _ _ ⟨_,rfl,D4⟩
 ·refine At fun w j=> ?_
  refine imp (G5 (show E3 _ _ _ _ _ _ (B7 Ab.E 93 a.later) [(93,C7 Ab.E 47 a.later)] from Nn j)) ?_
  refine imp (Cj (show _=some ((Aa (a.later.length:Int)),[]) from H7)) ?_
  refine imp Ai ?_
  refine Aq (fun _=> ?_) (fun _=> ?_)
  ·refine Aq (fun _=> ?_) (fun _=> ?_)
   ·refine iq (Aa (IntKind.wrap .i64 (a.Ap+c.1))) (Cp (b:=⟨[Aa (IntKind.wrap .i64 (a.Ap+c.1))],3⟩) (by first|rfl|(simp (disch:=first|decide|assumption) only [lk])) rfl) ?_
    refine imp Ai ?_
    refine At fun k e=> ?_
    refine iq (AV.ptr 93 ((((IntKind.wrap .i64 ((a.later.length:Int)-(1))):Int).toNat)*6+0)) (G1 (E:=Ab.E) rfl e) ?_
    refine iq (AV.ptr 93 ((((IntKind.wrap .i64 ((a.later.length:Int)-(1))):Int).toNat)*6+0)) rfl ?_
    refine iq (AV.ptr 93 ((((IntKind.wrap .i64 ((a.later.length:Int)-(1))):Int).toNat)*6+0)) rfl ?_
    refine iq (Aa k.Ac) (Km (E:=Ab.E) (l:=a.later) (ty:=47) (o:=0) (Gd (ty:=47) (by first|rfl|(simp (disch:=first|decide|assumption) only [lk])) (C0 e).2) (C0 e).2 rfl (by decide) rfl) ?_
    refine imp Ai ?_
    refine Aq (fun _=> ?_) (fun _=> ?_)
    ·refine At fun f p=> ?_
     refine imp (Ri (Hu (Cb (R2 (E:=Ab.E) (ty:=47) (l':=a.later) _ Ab.nf rfl (by first|rfl|(simp (disch:=first|decide|assumption) only [lk]))) (Cb (Ael _ _ (Cb (Q8 _ (ty:=3) (us:=[Aa (IntKind.wrap .i64 (a.Ap+c.1))]) (by first|rfl|(simp (disch:=first|decide|assumption) only [lk])) (Cb (El _ _) Fh)) Fh)) Fh)) (Ag1 p) rfl)) ?_
     refine imp Ai ?_
     refine At fun q g=> ?_
     refine iq (AV.ptr 93 (((f:Int).toNat)*6+0)) (G1 (E:=Ab.E) rfl g) ?_
     refine iq (AV.ptr 93 (((f:Int).toNat)*6+0)) rfl ?_
     refine iq (AV.ptr 93 (((f:Int).toNat)*6+0)) rfl ?_
     refine iq (Aa q.Ac) (Km (E:=Ab.E) (l:=a.later) (ty:=47) (o:=0) (Gd (ty:=47) (by first|rfl|(simp (disch:=first|decide|assumption) only [lk])) (C0 g).2) (C0 g).2 rfl (by decide) rfl) ?_
     refine imp Ai ?_
     refine iq (Aa (IntKind.wrap .i64 (a.Ap+c.1))) (Cp (b:=⟨[Aa (IntKind.wrap .i64 (a.Ap+c.1))],3⟩) (by first|rfl|(simp (disch:=first|decide|assumption) only [lk])) rfl) ?_
     refine imp Ai ?_
     refine Aq (fun _=> ?_) (fun _=> ?_)
     ·refine iq (As Ab.E a.whole) (Cp (b:=⟨[Az a.A7,Aa a.A3,Aa a.Ar,Az a.Ba,As Ab.E a.before,As Ab.E a.later,Aa a.Ap,Aa a.A5,Aa a.A6,Aa a.Au,Aa a.Bm,Aa a.B8,Az a.B2,Aa a.B3,Aa a.Bf,Aa a.Bs,Aa a.Bg,Aa a.By,Aa a.Bw,Aa a.Df,Aa a.Dg,As Ab.E a.whole],72⟩) (by first|rfl|(simp (disch:=first|decide|assumption) only [lk])) rfl) ?_
      refine iq (Aa (IntKind.wrap .i64 (a.Ap+c.1))) (Cp (b:=⟨[Aa (IntKind.wrap .i64 (a.Ap+c.1))],3⟩) (by first|rfl|(simp (disch:=first|decide|assumption) only [lk])) rfl) ?_
      refine imp Ai ?_
      refine At fun h s=> ?_
      refine imp (An (mG s)) ?_
      refine imp Dk ?_
      refine imp Fp ?_
      iterate 7 refine imp Ai ?_
      refine imp (Dv (show _=some ((Ik Ab.E 329 ([h.1]:List Ab)),[(329,some ⟨Bl Ab.E ([h.1]:List Ab),47⟩)]) from rfl)) ?_
      refine At fun d v=> ?_
      refine imp (G5 (show E3 _ _ _ _ _ _ (B7 Ab.E 330 d) [(330,C7 Ab.E 47 d),(329,none),(93,none)] from Aes rfl (by first|rfl|(simp (disch:=first|decide|assumption) only [lk])) rfl (by first|rfl|(simp (disch:=first|decide|assumption) only [lk])) (by decide) v)) ?_
      refine imp (Cj (show _=some ((Aa (d.length:Int)),[]) from H7)) ?_
      refine imp Ai ?_
      exact fun hg=>J6 n (0) c.1 (d.length:Int) a.A7 a.A3 a.Ar a.Ba a.before a.later a.Ap a.A5 a.A6 a.Au a.Bm a.B8 a.B2 a.B3 a.Bf a.Bs a.Bg a.By a.Bw a.Df a.Dg a.whole (IntKind.wrap .i64 (a.Ap+c.1)) R hR n _ hg (Bc [(90000,330),(0,0),(89,89)] rfl rfl rfl (oR (oR (oR (oR (oR (A9 (F1 (E:=Ab.E) (id:=330) (l':=d) rfl rfl) (oR (oR Bn)))))))) (Ao (Da (E:=Ab.E) (ty:=47) (l':=d) rfl (show Am _ 330=_ from (by first|rfl|(simp (disch:=first|decide|assumption) only [lk])))) (Ao (Aw (cs:=[Az a.A7,Aa a.A3,Aa a.Ar,Az a.Ba,As Ab.E a.before,As Ab.E a.later,Aa a.Ap,Aa a.A5,Aa a.A6,Aa a.Au,Aa a.Bm,Aa a.B8,Az a.B2,Aa a.B3,Aa a.Bf,Aa a.Bs,Aa a.Bg,Aa a.By,Aa a.Bw,Aa a.Df,Aa a.Dg,As Ab.E a.whole]) (ty:=72) (by simp [clean,Av,Al]) (show Am _ 0=_ from (by first|rfl|(simp (disch:=first|decide|assumption) only [lk])))) (Ao (Aw (cs:=[Aa (IntKind.wrap .i64 (a.Ap+c.1))]) (ty:=3) rfl (show Am _ 89=_ from (by first|rfl|(simp (disch:=first|decide|assumption) only [lk])))) Bb))))
     ·refine imp (Cj (show _=some ((Aa (a.later.length:Int)),[]) from H7)) ?_
      refine imp Ai ?_
      exact fun hg=>J6 n (0) c.1 (a.later.length:Int) a.A7 a.A3 a.Ar a.Ba a.before a.later a.Ap a.A5 a.A6 a.Au a.Bm a.B8 a.B2 a.B3 a.Bf a.Bs a.Bg a.By a.Bw a.Df a.Dg a.whole (IntKind.wrap .i64 (a.Ap+c.1)) R hR n _ hg (Bc [(90000,93),(0,0),(89,89)] rfl rfl rfl (oR (oR (oR (oR (oR (A9 (F1 (E:=Ab.E) (id:=93) (l':=a.later) rfl rfl) (oR (oR Bn)))))))) (Ao (Da (E:=Ab.E) (ty:=47) (l':=a.later) rfl (show Am _ 93=_ from (by first|rfl|(simp (disch:=first|decide|assumption) only [lk])))) (Ao (Aw (cs:=[Az a.A7,Aa a.A3,Aa a.Ar,Az a.Ba,As Ab.E a.before,As Ab.E a.later,Aa a.Ap,Aa a.A5,Aa a.A6,Aa a.Au,Aa a.Bm,Aa a.B8,Az a.B2,Aa a.B3,Aa a.Bf,Aa a.Bs,Aa a.Bg,Aa a.By,Aa a.Bw,Aa a.Df,Aa a.Dg,As Ab.E a.whole]) (ty:=72) (by simp [clean,Av,Al]) (show Am _ 0=_ from (by first|rfl|(simp (disch:=first|decide|assumption) only [lk])))) (Ao (Aw (cs:=[Aa (IntKind.wrap .i64 (a.Ap+c.1))]) (ty:=3) rfl (show Am _ 89=_ from (by first|rfl|(simp (disch:=first|decide|assumption) only [lk])))) Bb))))
    ·refine imp (Cj (show _=some ((Aa (a.later.length:Int)),[]) from H7)) ?_
     refine imp Ai ?_
     exact fun hg=>J6 n (0) c.1 (a.later.length:Int) a.A7 a.A3 a.Ar a.Ba a.before a.later a.Ap a.A5 a.A6 a.Au a.Bm a.B8 a.B2 a.B3 a.Bf a.Bs a.Bg a.By a.Bw a.Df a.Dg a.whole (IntKind.wrap .i64 (a.Ap+c.1)) R hR n _ hg (Bc [(90000,93),(0,0),(89,89)] rfl rfl rfl (oR (oR (oR (oR (oR (A9 (F1 (E:=Ab.E) (id:=93) (l':=a.later) rfl rfl) (oR (oR Bn)))))))) (Ao (Da (E:=Ab.E) (ty:=47) (l':=a.later) rfl (show Am _ 93=_ from (by first|rfl|(simp (disch:=first|decide|assumption) only [lk])))) (Ao (Aw (cs:=[Az a.A7,Aa a.A3,Aa a.Ar,Az a.Ba,As Ab.E a.before,As Ab.E a.later,Aa a.Ap,Aa a.A5,Aa a.A6,Aa a.Au,Aa a.Bm,Aa a.B8,Az a.B2,Aa a.B3,Aa a.Bf,Aa a.Bs,Aa a.Bg,Aa a.By,Aa a.Bw,Aa a.Df,Aa a.Dg,As Ab.E a.whole]) (ty:=72) (by simp [clean,Av,Al]) (show Am _ 0=_ from (by first|rfl|(simp (disch:=first|decide|assumption) only [lk])))) (Ao (Aw (cs:=[Aa (IntKind.wrap .i64 (a.Ap+c.1))]) (ty:=3) rfl (show Am _ 89=_ from (by first|rfl|(simp (disch:=first|decide|assumption) only [lk])))) Bb))))
   ·refine imp (Cj (show _=some ((Aa (a.later.length:Int)),[]) from H7)) ?_
    refine imp Ai ?_
    exact fun hg=>J6 n (0) c.1 (a.later.length:Int) a.A7 a.A3 a.Ar a.Ba a.before a.later a.Ap a.A5 a.A6 a.Au a.Bm a.B8 a.B2 a.B3 a.Bf a.Bs a.Bg a.By a.Bw a.Df a.Dg a.whole (IntKind.wrap .i64 (a.Ap+c.1)) R hR n _ hg (Bc [(90000,93),(0,0),(89,89)] rfl rfl rfl (oR (oR (oR (oR (oR (A9 (F1 (E:=Ab.E) (id:=93) (l':=a.later) rfl rfl) (oR (oR Bn)))))))) (Ao (Da (E:=Ab.E) (ty:=47) (l':=a.later) rfl (show Am _ 93=_ from (by first|rfl|(simp (disch:=first|decide|assumption) only [lk])))) (Ao (Aw (cs:=[Az a.A7,Aa a.A3,Aa a.Ar,Az a.Ba,As Ab.E a.before,As Ab.E a.later,Aa a.Ap,Aa a.A5,Aa a.A6,Aa a.Au,Aa a.Bm,Aa a.B8,Az a.B2,Aa a.B3,Aa a.Bf,Aa a.Bs,Aa a.Bg,Aa a.By,Aa a.Bw,Aa a.Df,Aa a.Dg,As Ab.E a.whole]) (ty:=72) (by simp [clean,Av,Al]) (show Am _ 0=_ from (by first|rfl|(simp (disch:=first|decide|assumption) only [lk])))) (Ao (Aw (cs:=[Aa (IntKind.wrap .i64 (a.Ap+c.1))]) (ty:=3) rfl (show Am _ 89=_ from (by first|rfl|(simp (disch:=first|decide|assumption) only [lk])))) Bb))))
  ·refine imp (Cj (show _=some ((Aa (a.later.length:Int)),[]) from H7)) ?_
   refine imp Ai ?_
   exact fun hg=>J6 n (0) c.1 (a.later.length:Int) a.A7 a.A3 a.Ar a.Ba a.before a.later a.Ap a.A5 a.A6 a.Au a.Bm a.B8 a.B2 a.B3 a.Bf a.Bs a.Bg a.By a.Bw a.Df a.Dg a.whole (IntKind.wrap .i64 (a.Ap+c.1)) R hR n _ hg (Bc [(90000,93),(0,0),(89,89)] rfl rfl rfl (oR (oR (oR (oR (oR (A9 (F1 (E:=Ab.E) (id:=93) (l':=a.later) rfl rfl) (oR (oR Bn)))))))) (Ao (Da (E:=Ab.E) (ty:=47) (l':=a.later) rfl (show Am _ 93=_ from (by first|rfl|(simp (disch:=first|decide|assumption) only [lk])))) (Ao (Aw (cs:=[Az a.A7,Aa a.A3,Aa a.Ar,Az a.Ba,As Ab.E a.before,As Ab.E a.later,Aa a.Ap,Aa a.A5,Aa a.A6,Aa a.Au,Aa a.Bm,Aa a.B8,Az a.B2,Aa a.B3,Aa a.Bf,Aa a.Bs,Aa a.Bg,Aa a.By,Aa a.Bw,Aa a.Df,Aa a.Dg,As Ab.E a.whole]) (ty:=72) (by simp [clean,Av,Al]) (show Am _ 0=_ from (by first|rfl|(simp (disch:=first|decide|assumption) only [lk])))) (Ao (Aw (cs:=[Aa (IntKind.wrap .i64 (a.Ap+c.1))]) (ty:=3) rfl (show Am _ 89=_ from (by first|rfl|(simp (disch:=first|decide|assumption) only [lk])))) Bb))))
theorem Aez {n k:Nat} {look:Nat→Option B5} {a:Fj} {t:U9} (h:iU n a=some t):E3 pg KK.gl look k 44 [AV.agg [Az a.A7,Aa a.A3,Aa a.Ar,Az a.Ba,As Ab.E a.before,As Ab.E a.later,Aa a.Ap,Aa a.A5,Aa a.A6,Aa a.Au,Aa a.Bm,Aa a.B8,Az a.B2,Aa a.B3,Aa a.Bf,Aa a.Bs,Aa a.Bg,Aa a.By,Aa a.Bw,Aa a.Df,Aa a.Dg,As Ab.E a.whole]] (.B4 (B7 Ab.E k t.1::([Value.int .i64 t.2]:List Value).map AV.sc)) [(k,C7 Ab.E 47 t.1)]:=
 Mc (by first|rfl|simp [Av,clean,Al,En.Di]) (tT a.A7 a.A3 a.Ar a.Ba (As Ab.E a.before) (As Ab.E a.later) a.Ap a.A5 a.A6 a.Au a.Bm a.B8 a.B2 a.B3 a.Bf a.Bs a.Bg a.By a.Bw a.Df a.Dg (As Ab.E a.whole) _ (tY n a (Hs Ab.E 47 t.1 [Value.int .i64 t.2]) (fun r e u m h=>by rw [e];exact h) h))
theorem yG (n:Nat) (a:Fj) {t:qU} (R:AV→Mem→Prop) (hR:∀r:qU,t=r→∀u m,C2 ((Aa r)) u m→R u m):g67 n a=some t→F67 a.A7 a.A3 a.Ar a.Ba (As Ab.E a.before) (As Ab.E a.later) a.Ap a.A5 a.A6 a.Au a.Bm a.B8 a.B2 a.B3 a.Bf a.Bs a.Bg a.By a.Bw a.Df a.Dg (As Ab.E a.whole) R:=by
 unfold g67 F67
 refine imp (Ei rfl) ?_
 refine imp (Ei rfl) ?_
 refine imp (Ei rfl) ?_
 refine At fun b d=> ?_
 refine iq (AV.Dn [Aa b.Ac,Aa b.Ak,Aa b.Aj,Aa b.Ad,Aa b.Ay,Aa b.Br] 0) (C5 (E:=Ab.E) rfl d) ?_
 refine iq (AV.Dn [Aa b.Ac,Aa b.Ak,Aa b.Aj,Aa b.Ad,Aa b.Ay,Aa b.Br] 0) rfl ?_
 refine iq (AV.Dn [Aa b.Ac,Aa b.Ak,Aa b.Aj,Aa b.Ad,Aa b.Ay,Aa b.Br] 1) rfl ?_
 refine iq (AV.agg [Aa b.Ak,Aa b.Aj]) rfl ?_
 refine imp Fe ?_
 iterate 2 refine imp Ai ?_
 refine At fun i e=> ?_
 refine imp (An (jX e)) ?_
 refine imp Dk ?_
 iterate 2 refine imp Ai ?_
 refine At fun c f=> ?_
 refine iq (AV.Dn [Aa c.Ac,Aa c.Ak,Aa c.Aj,Aa c.Ad,Aa c.Ay,Aa c.Br] 0) (C5 (E:=Ab.E) rfl f) ?_
 refine iq (AV.Dn [Aa c.Ac,Aa c.Ak,Aa c.Aj,Aa c.Ad,Aa c.Ay,Aa c.Br] 0) rfl ?_
 refine iq (AV.Dn [Aa c.Ac,Aa c.Ak,Aa c.Aj,Aa c.Ad,Aa c.Ay,Aa c.Br] 0) rfl ?_
 refine iq (Aa c.Ac) rfl ?_
 refine imp Ai ?_
 refine At fun g h=> ?_
 refine iq (Aa (IntKind.wrap .i64 g)) (Nk h) ?_
 refine imp Ai ?_
 exact C9 hR rfl rfl
theorem Adv {n:Nat} {a:Fj} {t:qU} (h:g67 n a=some t):Dc pg KK.gl 67 [AV.agg [Az a.A7,Aa a.A3,Aa a.Ar,Az a.Ba,As Ab.E a.before,As Ab.E a.later,Aa a.Ap,Aa a.A5,Aa a.A6,Aa a.Au,Aa a.Bm,Aa a.B8,Az a.B2,Aa a.B3,Aa a.Bf,Aa a.Bs,Aa a.Bg,Aa a.By,Aa a.Bw,Aa a.Df,Aa a.Dg,As Ab.E a.whole]] ((Aa t)):=
 A1 (by first|rfl|simp [Av,clean,Al,En.Di]) (by first|rfl|simp [Av,clean,Al,En.Di]) (vL a.A7 a.A3 a.Ar a.Ba (As Ab.E a.before) (As Ab.E a.later) a.Ap a.A5 a.A6 a.Au a.Bm a.B8 a.B2 a.B3 a.Bf a.Bs a.Bg a.By a.Bw a.Df a.Dg (As Ab.E a.whole) _ (yG n a (C2 ((Aa t))) (fun r e u m h=>by rw [e];exact h) h))
theorem Abz (n:Nat) (a b:TP) {t:uI} (R:AV→Mem→Prop) (hR:∀r:uI,t=r→∀u m,C2 ((AV.agg (TP.E.enc r))) u m→R u m):g68 n a b=some t→F68 a.X a.Y b.X b.Y R:=by
 unfold g68 F68
 refine iq (AV.agg [Aa (IntKind.wrap .i64 (a.X+b.X)),Aa (IntKind.wrap .i64 (a.Y+b.Y))]) rfl ?_
 refine imp (Ce (sz:=2) Bi Bi rfl rfl (cs:=[Aa (0),Aa (0)]) (cs':=[Aa (IntKind.wrap .i64 (a.X+b.X)),Aa (IntKind.wrap .i64 (a.Y+b.Y))]) (ty:=42) (by first|rfl|(simp (disch:=first|decide|assumption) only [lk])) rfl rfl) ?_
 exact fun hg=>Ut (hR _ (Option.some.inj hg).symm) (Gi (E:=TP.E) _ (⟨IntKind.wrap .i64 (a.X+b.X),IntKind.wrap .i64 (a.Y+b.Y)⟩:TP))
theorem Ag3 {n:Nat} {a:TP} {b:TP} {t:uI} (h:g68 n a b=some t):Dc pg KK.gl 68 [AV.agg [Aa a.X,Aa a.Y],AV.agg [Aa b.X,Aa b.Y]] ((AV.agg (TP.E.enc t))):=
 A1 (by first|rfl|simp [Av,clean,Al,En.Di]) (by first|rfl|simp [Av,clean,Al,En.Di]) (rR a.X a.Y b.X b.Y _ (Abz n a b (C2 ((AV.agg (TP.E.enc t)))) (fun r e u m h=>by rw [e];exact h) h))
end Go.Proofs.YtmhnnmfcjdnlhaaGreatDoor
