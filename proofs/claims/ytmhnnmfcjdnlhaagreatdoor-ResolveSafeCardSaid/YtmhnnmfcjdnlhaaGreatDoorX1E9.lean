/- A part. -/
import Derived.Test.YtmhnnmfcjdnlhaaGreatDoorX1E8
set_option linter.unusedVariables false
set_option linter.unusedSimpArgs false
set_option maxRecDepth 100000
set_option maxHeartbeats 4000000
namespace Go.Proofs.YtmhnnmfcjdnlhaaGreatDoor
theorem qR (n:Nat) (q:List (List Ab)) (s v:Int) (K5:Bool) (w:List Ab) (Qb:List Ae) (Nw f g:Int) (h:ByteArray) (i j k l o p:Int) (b:ByteArray) (c d:Int) (e:ByteArray) (x:Int) {t:(Int)⊕wU} (R:AV→Mem→Prop) (N0:St→Prop) (hR:∀r:wU,t=(.inr r)→∀u m,C2 ((Ah r)) u m→R u m) (hN0:∀y:Int,t=(.inl y)→∀s':St,Cl KK 101 0 s' (eZ (As (Ct Ab.E) q) s v K5 (As Ab.E w) (As Ae.E Qb) Nw y f g h i j k l o p b c d e [])→N0 s'):gS n q s v K5 w Qb Nw f g h i j k l o p b c d e x=some t→wD (As (Ct Ab.E) q) s v K5 (As Ab.E w) (As Ae.E Qb) Nw x f g h i j k l o p b c d e [] R N0:=by
 unfold gS wD
 refine Aq (fun _=> ?_) (fun _=> ?_)
 ·refine At fun a aa=> ?_
  refine iq (AV.Dn [Az a.Call,Aa a.Kind,Aa a.Value,Az a.Fix] 0) (C5 (E:=Ae.E) rfl aa) ?_
  refine iq (AV.agg [Az a.Call,Aa a.Kind,Aa a.Value,Az a.Fix]) rfl ?_
  refine imp Ku ?_
  refine imp Dh ?_
  iterate 2 refine imp Ai ?_
  refine imp Dh ?_
  refine At fun z ab=> ?_
  refine iq (AV.Dn [As Ab.E z] 0) (C5 (E:=(Ct Ab.E)) rfl ab) ?_
  refine iq (As Ab.E z) rfl ?_
  refine iq (AV.agg [Aa (0),Aa (0)]) rfl ?_
  refine At fun ah ad=> ?_
  refine imp (An (sg8 ad)) ?_
  refine imp Dk ?_
  refine imp Ai ?_
  refine iq (Ah (decide (a=(⟨b,c,d,e⟩:Ae)))) (Ae.xU (a) ((⟨b,c,d,e⟩:Ae))) ?_
  refine imp Eh ?_
  refine Aq (fun _=> ?_) (fun _=> ?_)
  ·refine Aq (fun _=> ?_) (fun _=> ?_)
   ·refine At fun ai ae=> ?_
    refine imp (An (sg9 ae)) ?_
    refine imp Eh ?_
    refine Aq (fun _=> ?_) (fun _=> ?_)
    ·refine At fun aj af=> ?_
     refine imp (An (Afc af)) ?_
     refine imp Eh ?_
     exact C9 hR rfl rfl
    ·exact C9 hR rfl rfl
   ·exact C9 hR rfl rfl
  ·refine Aq (fun _=> ?_) (fun _=> ?_)
   ·refine At fun ak ag=> ?_
    refine imp (An (Afc ag)) ?_
    refine imp Eh ?_
    refine Aq (fun _=> ?_) (fun _=> ?_)
    ·exact C9 hR rfl rfl
    ·exact fun hg=>hN0 _ (Option.some.inj hg).symm _ (Bc [(0,0),(1,1),(207,207)] rfl rfl rfl (A9 (Bz (E:=(Ct Ab.E)) _ false) (oR (oR (oR (oR (oR (oR (A9 (Bz (E:=Ab.E) _ false) (A9 (Bz (E:=Ae.E) _ false) (oR (oR Bn))))))))))) (Ao (Aw (cs:=[Aa f,Aa g]) (ty:=24) rfl (show Am _ 0=_ from (by first|rfl|(simp (disch:=first|decide|assumption) only [lk])))) (Ao (Aw (cs:=[Az h,Aa i,Aa j,Aa k,Aa l,Aa o,Aa p]) (ty:=26) rfl (show Am _ 1=_ from (by first|rfl|(simp (disch:=first|decide|assumption) only [lk])))) (Ao (Aw (cs:=[Az b,Aa c,Aa d,Az e]) (ty:=30) rfl (show Am _ 207=_ from (by first|rfl|(simp (disch:=first|decide|assumption) only [lk])))) Bb))))
   ·exact fun hg=>hN0 _ (Option.some.inj hg).symm _ (Bc [(0,0),(1,1),(207,207)] rfl rfl rfl (A9 (Bz (E:=(Ct Ab.E)) _ false) (oR (oR (oR (oR (oR (oR (A9 (Bz (E:=Ab.E) _ false) (A9 (Bz (E:=Ae.E) _ false) (oR (oR Bn))))))))))) (Ao (Aw (cs:=[Aa f,Aa g]) (ty:=24) rfl (show Am _ 0=_ from (by first|rfl|(simp (disch:=first|decide|assumption) only [lk])))) (Ao (Aw (cs:=[Az h,Aa i,Aa j,Aa k,Aa l,Aa o,Aa p]) (ty:=26) rfl (show Am _ 1=_ from (by first|rfl|(simp (disch:=first|decide|assumption) only [lk])))) (Ao (Aw (cs:=[Az b,Aa c,Aa d,Az e]) (ty:=30) rfl (show Am _ 207=_ from (by first|rfl|(simp (disch:=first|decide|assumption) only [lk])))) Bb))))
 ·exact C9 hR rfl rfl
theorem qM (n:Nat) (a:List (List Ab)) (b c:Int) (K5:Bool) (d:List Ab) (Qb:List Ae) (Nw f g:Int) (i:ByteArray) (j l o p q v:Int) (w:ByteArray) (aa ab:Int) (ad:ByteArray) {t:wU} (R:AV→Mem→Prop) (hR:∀r:wU,t=r→∀u m,C2 ((Ah r)) u m→R u m) (k:Nat) (x:Int) (hx:Bt (fun y:Int=>gS n a b c K5 d Qb Nw f g i j l o p q v w aa ab ad y) k x=some t) {s:St} (hw:Cl KK 101 0 s (eZ (As (Ct Ab.E) a) b c K5 (As Ab.E d) (As Ae.E Qb) Nw x f g i j l o p q v w aa ab ad [])):C6 pg KK 101 0 (.loop wN) s (qY R):=
 Afj R (σ:=Nat×(Int)) (fun z=>Bt (fun y:Int=>gS n a b c K5 d Qb Nw f g i j l o p q v w aa ab ad y) z.1 z.2=some t) (fun z=>(As (Ct Ab.E) a)) (fun z=>b) (fun z=>c) (fun z=>K5) (fun z=>(As Ab.E d)) (fun z=>(As Ae.E Qb)) (fun z=>Nw) (fun z=>z.2) (fun z=>f) (fun z=>g) (fun z=>i) (fun z=>j) (fun z=>l) (fun z=>o) (fun z=>p) (fun z=>q) (fun z=>v) (fun z=>w) (fun z=>aa) (fun z=>ab) (fun z=>ad) (fun z=>[]) (fun z=>z.1) (by
  rintro ⟨k,y⟩ h
  cases k with
  |zero=>exact (Cz h).elim
  |succ k=>
   obtain ⟨u,h1,h2,h3⟩:=Cv h
   exact qR n a b c K5 d Qb Nw f g i j l o p q v w aa ab ad y R _ (fun r e=>hR r (h3 _ e).symm) (fun y' e s' hw=>⟨(k,y'),h2 _ e,Nat.lt_succ_self k,hw⟩) h1) (k,x) hx hw
theorem Aec (n:Nat) (d:List (List Ab)) (e:Int) (c:Ea) (f:Int) (a:Dm) {t:wU} (R:AV→Mem→Prop) (hR:∀r:wU,t=r→∀u m,C2 ((Ah r)) u m→R u m):g3 n d e c f a=some t→F3 (As (Ct Ab.E) d) e c.Bu c.Bj f a.Name a.D9 a.B6 a.C1 a.Ca a.Dy a.Dz R:=by
 unfold g3 F3
 refine At fun p i=> ?_
 refine imp (An (sg4 i)) ?_
 refine imp Eh ?_
 refine Aq (fun _=> ?_) (fun _=> ?_)
 ·exact C9 hR rfl rfl
 ·refine At fun q j=> ?_
  refine imp (An (sg5 j)) ?_
  refine imp Eh ?_
  refine Aq (fun _=> ?_) (fun _=> ?_)
  ·exact C9 hR rfl rfl
  ·refine At fun b k=> ?_
   refine imp (An (sg6 k)) ?_
   refine imp aF ?_
   refine imp Ku ?_
   refine imp Dh ?_
   iterate 2 refine imp Ai ?_
   refine imp Dh ?_
   refine imp Ai ?_
   refine Aq (fun _=> ?_) (fun _=> ?_)
   ·refine iq (Aa (b.2.1.length:Int)) rfl ?_
    refine imp Ai ?_
    refine Aq (fun _=> ?_) (fun _=> ?_)
    ·refine iq (AV.agg [Az (⟨#[]⟩:ByteArray),Aa (0),Aa (0),Az (⟨#[]⟩:ByteArray)]) rfl ?_
     refine iq (Ah (decide (b.1=(⟨(⟨#[]⟩:ByteArray),0,0,(⟨#[]⟩:ByteArray)⟩:Ae)))) (Ae.xU (b.1) ((⟨(⟨#[]⟩:ByteArray),0,0,(⟨#[]⟩:ByteArray)⟩:Ae))) ?_
     refine imp Eh ?_
     exact C9 hR rfl rfl
    ·exact C9 hR rfl rfl
   ·refine At fun h l=> ?_
    refine iq (AV.Dn [As Ab.E h] 0) (C5 (E:=(Ct Ab.E)) rfl l) ?_
    refine iq (As Ab.E h) rfl ?_
    refine At fun g o=> ?_
    refine imp (An (sg7 o)) ?_
    refine imp Dk ?_
    refine imp Ai ?_
    refine Aq (fun _=> ?_) (fun _=> ?_)
    ·exact C9 hR rfl rfl
    ·refine iq (Aa (g.1.length:Int)) rfl ?_
     refine imp Ai ?_
     exact fun hg=>qM n d e f false b.2.1 g.1 (g.1.length:Int) c.Bu c.Bj a.Name a.D9 a.B6 a.C1 a.Ca a.Dy a.Dz b.1.Call b.1.Kind b.1.Value b.1.Fix R hR n _ hg (Bc [(0,0),(1,1),(207,207)] rfl rfl rfl (A9 (Bz (E:=(Ct Ab.E)) _ false) (oR (oR (oR (oR (oR (oR (A9 (Bz (E:=Ab.E) _ false) (A9 (Bz (E:=Ae.E) _ false) (oR (oR Bn))))))))))) (Ao (Aw (cs:=[Aa c.Bu,Aa c.Bj]) (ty:=24) rfl (show Am _ 0=_ from (by first|rfl|(simp (disch:=first|decide|assumption) only [lk])))) (Ao (Aw (cs:=[Az a.Name,Aa a.D9,Aa a.B6,Aa a.C1,Aa a.Ca,Aa a.Dy,Aa a.Dz]) (ty:=26) rfl (show Am _ 1=_ from (by first|rfl|(simp (disch:=first|decide|assumption) only [lk])))) (Ao (Aw (cs:=[Az b.1.Call,Aa b.1.Kind,Aa b.1.Value,Az b.1.Fix]) (ty:=30) rfl (show Am _ 207=_ from (by first|rfl|(simp (disch:=first|decide|assumption) only [lk])))) Bb))))
theorem sg3 {n:Nat} {c:List (List Ab)} {d:Int} {b:Ea} {f:Int} {a:Dm} {t:wU} (h:g3 n c d b f a=some t):Dc pg KK.gl 3 [As (Ct Ab.E) c,Aa d,AV.agg [Aa b.Bu,Aa b.Bj],Aa f,AV.agg [Az a.Name,Aa a.D9,Aa a.B6,Aa a.C1,Aa a.Ca,Aa a.Dy,Aa a.Dz]] ((Ah t)):=
 A1 (by first|rfl|simp [Av,clean,Al,En.Di]) (by first|rfl|simp [Av,clean,Al,En.Di]) (Abt (As (Ct Ab.E) c) d b.Bu b.Bj f a.Name a.D9 a.B6 a.C1 a.Ca a.Dy a.Dz _ (Aec n c d b f a (C2 ((Ah t))) (fun r e u m h=>by rw [e];exact h) h))
end Go.Proofs.YtmhnnmfcjdnlhaaGreatDoor
