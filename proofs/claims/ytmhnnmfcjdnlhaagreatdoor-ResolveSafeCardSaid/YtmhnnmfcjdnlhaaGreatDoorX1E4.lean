/- A part. -/
import Derived.Test.YtmhnnmfcjdnlhaaGreatDoorX1E3
set_option linter.unusedVariables false
set_option linter.unusedSimpArgs false
set_option maxRecDepth 100000
set_option maxHeartbeats 4000000
namespace Go.Proofs.YtmhnnmfcjdnlhaaGreatDoor
theorem Aci (n a:Nat) {t:rQ} (R:AV→Mem→Prop) (hR:∀r:rQ,t=r→∀u m,C2 ((Ci r)) u m→R u m):g92 n a=some t→F92 a R:=by
 unfold g92 F92
 refine At fun c b=> ?_
 refine imp (An (Ads b)) ?_
 refine imp D1 ?_
 exact C9 hR rfl rfl
theorem Agr {n:Nat} {a:Nat} {t:rQ} (h:g92 n a=some t):Dc pg KK.gl 92 [Ci a] ((Ci t)):=
 A1 (by first|rfl|simp [Av,clean,Al,En.Di]) (by first|rfl|simp [Av,clean,Al,En.Di]) (sF a _ (Aci n a (C2 ((Ci t))) (fun r e u m h=>by rw [e];exact h) h))
theorem zI (n a:Nat) {t:rF} (R:AV→Mem→Prop) (hR:∀r:rF,t=r→∀u m,C2 ((Ci r)) u m→R u m):g91 n a=some t→F91 a R:=by
 unfold g91 F91
 refine imp (E5 (Lf _)) ?_
 refine imp Dj ?_
 refine At fun b e=> ?_
 refine iq (AV.sc (.int .u64 b)) (V3 e) ?_
 refine imp Dj ?_
 refine iq (AV.sc (.int .u64 (E2 .u64 b (2047)))) (Hk _ _) ?_
 refine imp Dj ?_
 refine Aq (fun _=> ?_) (fun _=> ?_)
 ·refine iq (AV.sc (.int .u64 (E2 .u64 (a:Int) (9223372036854775808)))) (Hk _ _) ?_
  refine imp Dj ?_
  refine Aq (fun _=> ?_) (fun _=> ?_)
  ·refine iq (AV.sc (.int .u64 (bOr .u64 (E2 .u64 (a:Int) (9223372036854775808)) (4607182418800017408)))) (bS _ _) ?_
   refine imp Dj ?_
   refine imp (E5 (F2 _)) ?_
   refine imp D1 ?_
   exact C9 hR rfl rfl
  ·refine imp (E5 (F2 _)) ?_
   refine imp D1 ?_
   exact C9 hR rfl rfl
 ·refine Aq (fun _=> ?_) (fun _=> ?_)
  ·refine At fun c f=> ?_
   refine iq (AV.sc (.int .u64 c)) (V3 f) ?_
   refine imp Dj ?_
   refine At fun d g=> ?_
   refine iq (AV.sc (.int .u64 d)) (V3 g) ?_
   refine imp Dj ?_
   refine iq (AV.sc (.int .u64 (G3 .u64 (IntKind.wrap .u64 ((a:Int)+c)) d))) (Lj _ _) ?_
   refine imp Dj ?_
   refine imp (E5 (F2 _)) ?_
   refine imp D1 ?_
   exact C9 hR rfl rfl
  ·refine imp (E5 (F2 _)) ?_
   refine imp D1 ?_
   exact C9 hR rfl rfl
theorem Af0 {n:Nat} {a:Nat} {t:rF} (h:g91 n a=some t):Dc pg KK.gl 91 [Ci a] ((Ci t)):=
 A1 (by first|rfl|simp [Av,clean,Al,En.Di]) (by first|rfl|simp [Av,clean,Al,En.Di]) (uL a _ (zI n a (C2 ((Ci t))) (fun r e u m h=>by rw [e];exact h) h))
theorem Aav (n:Nat) (a:Int) {t:vS} (R:AV→Mem→Prop) (hR:∀r:vS,t=r→∀u m,C2 ((Aa r)) u m→R u m):xT n a=some t→F76 a R:=by
 unfold xT F76
 refine At fun b c=> ?_
 refine imp (An (Z7 c)) ?_
 refine imp Ai ?_
 refine iq (Ci (Jn b)) (K0 Bi Bi) ?_
 refine imp D1 ?_
 refine Ax fun h=> ?_
 refine M7 fun i=> ?_
 refine At fun j d=> ?_
 refine imp (An (Agr d)) ?_
 refine imp D1 ?_
 refine Ax fun k=> ?_
 refine At fun l e=> ?_
 refine imp (An (Af0 e)) ?_
 refine imp D1 ?_
 refine At fun f g=> ?_
 refine iq (Aa f) (N9 Bi Bi g) ?_
 refine imp Ai ?_
 exact C9 hR rfl rfl
theorem Acw {n:Nat} {a:Int} {t:vS} (h:xT n a=some t):Dc pg KK.gl 76 [Aa a] ((Aa t)):=
 A1 (by first|rfl|simp [Av,clean,Al,En.Di]) (by first|rfl|simp [Av,clean,Al,En.Di]) (rD a _ (Aav n a (C2 ((Aa t))) (fun r e u m h=>by rw [e];exact h) h))
theorem Acd (n:Nat) (a:Int) {t:rX} (R:AV→Mem→Prop) (hR:∀r:rX,t=r→∀u m,C2 ((Aa r)) u m→R u m):xP n a=some t→F77 a R:=by
 unfold xP F77
 refine At fun d b=> ?_
 refine imp (An (Z7 b)) ?_
 refine imp Ai ?_
 refine At fun e c=> ?_
 refine imp (An (Acw c)) ?_
 refine imp Ai ?_
 exact C9 hR rfl rfl
theorem Adi {n:Nat} {a:Int} {t:rX} (h:xP n a=some t):Dc pg KK.gl 77 [Aa a] ((Aa t)):=
 A1 (by first|rfl|simp [Av,clean,Al,En.Di]) (by first|rfl|simp [Av,clean,Al,En.Di]) (rJ a _ (Acd n a (C2 ((Aa t))) (fun r e u m h=>by rw [e];exact h) h))
theorem Aa4 (n a:Nat) {t:rV} (R:AV→Mem→Prop) (hR:∀r:rV,t=r→∀u m,C2 ((Ah r)) u m→R u m):g88 n a=some t→F88 a R:=by
 unfold g88 F88
 refine imp (E5 (Lf _)) ?_
 refine imp Dj ?_
 refine iq (Aa (IntKind.wrap .i64 (a:Int))) Bi ?_
 refine imp Ai ?_
 exact C9 hR rfl rfl
theorem Agu {n:Nat} {a:Nat} {t:rV} (h:g88 n a=some t):Dc pg KK.gl 88 [Ci a] ((Ah t)):=
 A1 (by first|rfl|simp [Av,clean,Al,En.Di]) (by first|rfl|simp [Av,clean,Al,En.Di]) (qH a _ (Aa4 n a (C2 ((Ah t))) (fun r e u m h=>by rw [e];exact h) h))
theorem zY (n a b:Nat) {t:pN} (R:AV→Mem→Prop) (hR:∀r:pN,t=r→∀u m,C2 ((Ci r)) u m→R u m):Z8 n a b=some t→F89 a b R:=by
 unfold Z8 F89
 refine imp (E5 (Lf _)) ?_
 refine imp Dj ?_
 refine iq (AV.sc (.int .u64 (G3 .u64 (a:Int) (9223372036854775808)))) (Lj _ _) ?_
 refine imp Dj ?_
 refine imp (E5 (Lf _)) ?_
 refine imp Dj ?_
 refine iq (AV.sc (.int .u64 (E2 .u64 (b:Int) (9223372036854775808)))) (Hk _ _) ?_
 refine imp Dj ?_
 refine iq (AV.sc (.int .u64 (bOr .u64 (G3 .u64 (a:Int) (9223372036854775808)) (E2 .u64 (b:Int) (9223372036854775808))))) (bS _ _) ?_
 refine imp Dj ?_
 refine imp (E5 (F2 _)) ?_
 refine imp D1 ?_
 exact C9 hR rfl rfl
theorem Wa {n:Nat} {a:Nat} {b:Nat} {t:pN} (h:Z8 n a b=some t):Dc pg KK.gl 89 [Ci a,Ci b] ((Ci t)):=
 A1 (by first|rfl|simp [Av,clean,Al,En.Di]) (by first|rfl|simp [Av,clean,Al,En.Di]) (pA a b _ (zY n a b (C2 ((Ci t))) (fun r e u m h=>by rw [e];exact h) h))
theorem rY (n a:Nat) {t:cW} (R:AV→Mem→Prop) (hR:∀r:cW,t=r→∀u m,C2 ((Ci r)) u m→R u m):Yz n a=some t→wJ a R:=by
 unfold Yz wJ
 refine Ax fun b=> ?_
 refine Ax fun c=> ?_
 refine A4 fun d=> ?_
 refine Ax fun e=> ?_
 refine A4 fun f=> ?_
 refine Ax fun g=> ?_
 refine A4 fun h=> ?_
 refine Ax fun i=> ?_
 refine A4 fun j=> ?_
 refine Ax fun k=> ?_
 refine A4 fun l=> ?_
 refine Ax fun o=> ?_
 refine A4 fun p=> ?_
 refine Ax fun q=> ?_
 refine A4 fun s=> ?_
 refine Ax fun v=> ?_
 refine A4 fun w=> ?_
 refine Ax fun x=> ?_
 refine A4 fun y=> ?_
 refine M7 fun z=> ?_
 refine Ax fun aa=> ?_
 refine A4 fun ab=> ?_
 exact C9 hR rfl rfl
theorem mW {n:Nat} {a:Nat} {t:cW} (h:Yz n a=some t):Dc pg KK.gl 107 [Ci a] ((Ci t)):=
 A1 (by first|rfl|simp [Av,clean,Al,En.Di]) (by first|rfl|simp [Av,clean,Al,En.Di]) (oL a _ (rY n a (C2 ((Ci t))) (fun r e u m h=>by rw [e];exact h) h))
theorem qZ (n a:Nat) {t:cC} (R:AV→Mem→Prop) (hR:∀r:cC,t=r→∀u m,C2 ((Ci r)) u m→R u m):aN n a=some t→qF a R:=by
 unfold aN qF
 refine nT ?_
 refine Aq (fun _=> ?_) (fun _=> ?_)
 ·refine At fun e b=> ?_
  refine imp (An (mW b)) ?_
  refine imp D1 ?_
  exact C9 hR rfl rfl
 ·refine R3 ?_
  refine Aq (fun _=> ?_) (fun _=> ?_)
  ·refine M7 fun f=> ?_
   refine At fun g c=> ?_
   refine imp (An (mW c)) ?_
   refine imp D1 ?_
   refine D6 fun h=> ?_
   refine A4 fun i=> ?_
   exact C9 hR rfl rfl
  ·refine D6 fun j=> ?_
   refine A4 fun k=> ?_
   refine M7 fun l=> ?_
   refine At fun o d=> ?_
   refine imp (An (mW d)) ?_
   refine imp D1 ?_
   refine A4 fun p=> ?_
   refine A4 fun q=> ?_
   exact C9 hR rfl rfl
theorem xN {n:Nat} {a:Nat} {t:cC} (h:aN n a=some t):Dc pg KK.gl 105 [Ci a] ((Ci t)):=
 A1 (by first|rfl|simp [Av,clean,Al,En.Di]) (by first|rfl|simp [Av,clean,Al,En.Di]) (lK a _ (qZ n a (C2 ((Ci t))) (fun r e u m h=>by rw [e];exact h) h))
theorem zU (n a:Nat) {t:uU} (R:AV→Mem→Prop) (hR:∀r:uU,t=r→∀u m,C2 ((Ci r)) u m→R u m):g99 n a=some t→F99 a R:=by
 unfold g99 F99
 refine Wl ?_
 refine Aq (fun _=> ?_) (fun _=> ?_)
 ·exact C9 hR rfl rfl
 ·refine R3 ?_
  refine Aq (fun _=> ?_) (fun _=> ?_)
  ·refine At fun d b=> ?_
   refine imp (An (xN b)) ?_
   refine imp D1 ?_
   exact C9 hR rfl rfl
  ·refine Gw ?_
   refine At fun e c=> ?_
   refine imp (An (xN c)) ?_
   refine imp D1 ?_
   refine Gw ?_
   exact C9 hR rfl rfl
theorem Af7 {n:Nat} {a:Nat} {t:uU} (h:g99 n a=some t):Dc pg KK.gl 99 [Ci a] ((Ci t)):=
 A1 (by first|rfl|simp [Av,clean,Al,En.Di]) (by first|rfl|simp [Av,clean,Al,En.Di]) (uV a _ (zU n a (C2 ((Ci t))) (fun r e u m h=>by rw [e];exact h) h))
theorem Acy (n a:Nat) {t:sI} (R:AV→Mem→Prop) (hR:∀r:sI,t=r→∀u m,C2 ((Ci r)) u m→R u m):g90 n a=some t→F90 a R:=by
 unfold g90 F90
 refine At fun c b=> ?_
 refine imp (An (Af7 b)) ?_
 refine imp D1 ?_
 exact C9 hR rfl rfl
theorem Af9 {n:Nat} {a:Nat} {t:sI} (h:g90 n a=some t):Dc pg KK.gl 90 [Ci a] ((Ci t)):=
 A1 (by first|rfl|simp [Av,clean,Al,En.Di]) (by first|rfl|simp [Av,clean,Al,En.Di]) (pK a _ (Acy n a (C2 ((Ci t))) (fun r e u m h=>by rw [e];exact h) h))
theorem Abe (n a b:Nat) {t:pW} (R:AV→Mem→Prop) (hR:∀r:pW,t=r→∀u m,C2 ((Ci r)) u m→R u m):g75 n a b=some t→F75 a b R:=by
 unfold g75 F75
 refine At fun ab c=> ?_
 refine imp (An (Abl c)) ?_
 refine imp Eh ?_
 refine Aq (fun _=> ?_) (fun _=> ?_)
 ·refine At fun ad d=> ?_
  refine imp (An (Aam d)) ?_
  refine imp D1 ?_
  exact C9 hR rfl rfl
 ·refine At fun ae e=> ?_
  refine imp (An (Abl e)) ?_
  refine imp Eh ?_
  refine Aq (fun _=> ?_) (fun _=> ?_)
  ·refine At fun af f=> ?_
   refine imp (An (Aam f)) ?_
   refine imp D1 ?_
   exact C9 hR rfl rfl
  ·refine Wl ?_
   refine Aq (fun _=> ?_) (fun _=> ?_)
   ·refine Zo ?_
    refine Aq (fun _=> ?_) (fun _=> ?_)
    ·refine At fun ag g=> ?_
     refine imp (An (Agu g)) ?_
     refine imp Eh ?_
     refine Aq (fun _=> ?_) (fun _=> ?_)
     ·refine At fun ah h=> ?_
      refine imp (An (Wa h)) ?_
      refine imp D1 ?_
      exact C9 hR rfl rfl
     ·refine At fun ai i=> ?_
      refine imp (An (Wa i)) ?_
      refine imp D1 ?_
      exact C9 hR rfl rfl
    ·refine At fun aj j=> ?_
     refine imp (An (Wa j)) ?_
     refine imp D1 ?_
     exact C9 hR rfl rfl
   ·refine Wl ?_
    refine Aq (fun _=> ?_) (fun _=> ?_)
    ·refine At fun ak k=> ?_
     refine imp (An (Wa k)) ?_
     refine imp D1 ?_
     exact C9 hR rfl rfl
    ·refine At fun al l=> ?_
     refine imp (An (gX l)) ?_
     refine imp Eh ?_
     refine Aq (fun _=> ?_) (fun _=> ?_)
     ·refine At fun am o=> ?_
      refine imp (An (gX o)) ?_
      refine imp Eh ?_
      refine Aq (fun _=> ?_) (fun _=> ?_)
      ·refine At fun an p=> ?_
       refine imp (An (gX p)) ?_
       refine imp Eh ?_
       refine Aq (fun _=> ?_) (fun _=> ?_)
       ·refine At fun ao q=> ?_
        refine imp (An (Wa q)) ?_
        refine imp D1 ?_
        exact C9 hR rfl rfl
       ·refine At fun ap s=> ?_
        refine imp (An (Wa s)) ?_
        refine imp D1 ?_
        exact C9 hR rfl rfl
      ·refine At fun aq v=> ?_
       refine imp (An (gX v)) ?_
       refine imp Eh ?_
       refine Aq (fun _=> ?_) (fun _=> ?_)
       ·refine At fun ar w=> ?_
        refine imp (An (Wa w)) ?_
        refine imp D1 ?_
        exact C9 hR rfl rfl
       ·refine At fun au x=> ?_
        refine imp (An (Wa x)) ?_
        refine imp D1 ?_
        exact C9 hR rfl rfl
     ·refine At fun av y=> ?_
      refine imp (An (gX y)) ?_
      refine imp Eh ?_
      refine Aq (fun _=> ?_) (fun _=> ?_)
      ·refine At fun aw z=> ?_
       refine imp (An (Wa z)) ?_
       refine imp D1 ?_
       exact C9 hR rfl rfl
      ·refine M7 fun ax=> ?_
       refine At fun ay aa=> ?_
       refine imp (An (Af9 aa)) ?_
       refine imp D1 ?_
       refine jK ?_
       refine Aq (fun _=> ?_) (fun _=> ?_)
       ·refine nT ?_
        refine Aq (fun _=> ?_) (fun _=> ?_)
        ·refine A4 fun az=> ?_
         exact C9 hR rfl rfl
        ·refine D6 fun ba=> ?_
         exact C9 hR rfl rfl
       ·exact C9 hR rfl rfl
theorem Afy {n:Nat} {a:Nat} {b:Nat} {t:pW} (h:g75 n a b=some t):Dc pg KK.gl 75 [Ci a,Ci b] ((Ci t)):=
 A1 (by first|rfl|simp [Av,clean,Al,En.Di]) (by first|rfl|simp [Av,clean,Al,En.Di]) (qN a b _ (Abe n a b (C2 ((Ci t))) (fun r e u m h=>by rw [e];exact h) h))
theorem Aba (n a b:Nat) {t:vB} (R:AV→Mem→Prop) (hR:∀r:vB,t=r→∀u m,C2 ((Ci r)) u m→R u m):xV n a b=some t→F57 a b R:=by
 unfold xV F57
 refine At fun d c=> ?_
 refine imp (An (Afy c)) ?_
 refine imp D1 ?_
 exact C9 hR rfl rfl
theorem Ad1 {n:Nat} {a:Nat} {b:Nat} {t:vB} (h:xV n a b=some t):Dc pg KK.gl 57 [Ci a,Ci b] ((Ci t)):=
 A1 (by first|rfl|simp [Av,clean,Al,En.Di]) (by first|rfl|simp [Av,clean,Al,En.Di]) (uK a b _ (Aba n a b (C2 ((Ci t))) (fun r e u m h=>by rw [e];exact h) h))
theorem Aat (n a:Nat) {t:vZ} (R:AV→Mem→Prop) (hR:∀r:vZ,t=r→∀u m,C2 ((Ci r)) u m→R u m):g56 n a=some t→F56 a R:=by
 unfold g56 F56
 refine At fun c b=> ?_
 refine imp (E5 (gG b)) ?_
 refine imp D1 ?_
 exact C9 hR rfl rfl
theorem Ac1 {n:Nat} {a:Nat} {t:vZ} (h:g56 n a=some t):Dc pg KK.gl 56 [Ci a] ((Ci t)):=
 A1 (by first|rfl|simp [Av,clean,Al,En.Di]) (by first|rfl|simp [Av,clean,Al,En.Di]) (oX a _ (Aat n a (C2 ((Ci t))) (fun r e u m h=>by rw [e];exact h) h))
theorem Aa8 (n:Nat) (c:Int) {t:tW} (R:AV→Mem→Prop) (hR:∀r:tW,t=r→∀u m,C2 ((AV.agg (TP.E.enc r))) u m→R u m):iD n c=some t→F58 c R:=by
 unfold iD F58
 refine At fun a d=> ?_
 refine imp (An (Acw d)) ?_
 refine imp Ai ?_
 refine At fun b e=> ?_
 refine imp (An (Adi e)) ?_
 refine imp Ai ?_
 refine iq (AV.agg [Aa a,Aa b]) rfl ?_
 refine imp (Ce (sz:=2) Bi Bi rfl rfl (cs:=[Aa (0),Aa (0)]) (cs':=[Aa a,Aa b]) (ty:=42) (by first|rfl|(simp (disch:=first|decide|assumption) only [lk])) rfl rfl) ?_
 exact fun hg=>Ut (hR _ (Option.some.inj hg).symm) (Gi (E:=TP.E) _ (⟨a,b⟩:TP))
theorem qW {n:Nat} {a:Int} {t:tW} (h:iD n a=some t):Dc pg KK.gl 58 [Aa a] ((AV.agg (TP.E.enc t))):=
 A1 (by first|rfl|simp [Av,clean,Al,En.Di]) (by first|rfl|simp [Av,clean,Al,En.Di]) (sY a _ (Aa8 n a (C2 ((AV.agg (TP.E.enc t)))) (fun r e u m h=>by rw [e];exact h) h))
theorem yN (n:Nat) (a b:TP) {t:vJ} (R:AV→Mem→Prop) (hR:∀r:vJ,t=r→∀u m,C2 ((Aa r)) u m→R u m):iR n a b=some t→F59 a.X a.Y b.X b.Y R:=by
 unfold iR F59
 exact C9 hR rfl rfl
theorem tI {n:Nat} {a:TP} {b:TP} {t:vJ} (h:iR n a b=some t):Dc pg KK.gl 59 [AV.agg [Aa a.X,Aa a.Y],AV.agg [Aa b.X,Aa b.Y]] ((Aa t)):=
 A1 (by first|rfl|simp [Av,clean,Al,En.Di]) (by first|rfl|simp [Av,clean,Al,En.Di]) (vG a.X a.Y b.X b.Y _ (yN n a b (C2 ((Aa t))) (fun r e u m h=>by rw [e];exact h) h))
theorem mJ (n:Nat) (c d a b e:Int) {t:(Int)⊕U2} (R:AV→Mem→Prop) (N0:St→Prop) (hR:∀r:U2,t=(.inr r)→∀u m,C2 ((AV.B4 [Aa r.1,Aa r.2])) u m→R u m) (hN0:∀y:Int,t=(.inl y)→∀s':St,Cl KK 103 0 s' (Ur c c d y a b [])→N0 s'):Ms n c d a b e=some t→dR c c d e a b [] R N0:=by
 unfold Ms dR
 refine Aq (fun _=> ?_) (fun _=> ?_)
 ·refine At fun w f=> ?_
  refine imp (An (Z7 f)) ?_
  refine imp Ai ?_
  refine Aq (fun _=> ?_) (fun _=> ?_)
  ·refine At fun x g=> ?_
   refine imp (An (Z7 g)) ?_
   refine imp Ai ?_
   refine At fun z h=> ?_
   refine imp (An (qW h)) ?_
   refine imp Fe ?_
   iterate 2 refine imp Ai ?_
   refine At fun aa i=> ?_
   refine imp (An (qW i)) ?_
   refine imp Fe ?_
   iterate 2 refine imp Ai ?_
   refine At fun ab j=> ?_
   refine imp (An (tI j)) ?_
   refine imp Ai ?_
   refine At fun ad k=> ?_
   refine imp (An (tI k)) ?_
   refine imp Ai ?_
   refine Aq (fun _=> ?_) (fun _=> ?_)
   ·refine Aq (fun _=> ?_) (fun _=> ?_)
    ·refine Aq (fun _=> ?_) (fun _=> ?_)
     ·refine Aq (fun _=> ?_) (fun _=> ?_)
      ·exact fun hg=>Dp rfl (hR _ (Option.some.inj hg).symm) (fS (fS Bx))
      ·refine At fun ae l=> ?_
       refine imp (An (Z7 l)) ?_
       refine imp Ai ?_
       exact fun hg=>Dp rfl (hR _ (Option.some.inj hg).symm) (fS (fS Bx))
     ·exact fun hg=>hN0 _ (Option.some.inj hg).symm _ (Bc [(0,0)] rfl rfl rfl (oR (oR (oR (oR (oR Bn))))) (Ao (Aw (cs:=[Aa a,Aa b]) (ty:=42) rfl (show Am _ 0=_ from (by first|rfl|(simp (disch:=first|decide|assumption) only [lk])))) Bb))
    ·exact fun hg=>hN0 _ (Option.some.inj hg).symm _ (Bc [(0,0)] rfl rfl rfl (oR (oR (oR (oR (oR Bn))))) (Ao (Aw (cs:=[Aa a,Aa b]) (ty:=42) rfl (show Am _ 0=_ from (by first|rfl|(simp (disch:=first|decide|assumption) only [lk])))) Bb))
   ·exact fun hg=>hN0 _ (Option.some.inj hg).symm _ (Bc [(0,0)] rfl rfl rfl (oR (oR (oR (oR (oR Bn))))) (Ao (Aw (cs:=[Aa a,Aa b]) (ty:=42) rfl (show Am _ 0=_ from (by first|rfl|(simp (disch:=first|decide|assumption) only [lk])))) Bb))
  ·refine At fun af o=> ?_
   refine imp (An (qW o)) ?_
   refine imp Fe ?_
   iterate 2 refine imp Ai ?_
   refine At fun ag p=> ?_
   refine imp (An (qW p)) ?_
   refine imp Fe ?_
   iterate 2 refine imp Ai ?_
   refine At fun ah q=> ?_
   refine imp (An (tI q)) ?_
   refine imp Ai ?_
   refine At fun ai s=> ?_
   refine imp (An (tI s)) ?_
   refine imp Ai ?_
   refine Aq (fun _=> ?_) (fun _=> ?_)
   ·refine Aq (fun _=> ?_) (fun _=> ?_)
    ·refine Aq (fun _=> ?_) (fun _=> ?_)
     ·refine Aq (fun _=> ?_) (fun _=> ?_)
      ·exact fun hg=>Dp rfl (hR _ (Option.some.inj hg).symm) (fS (fS Bx))
      ·refine At fun aj v=> ?_
       refine imp (An (Z7 v)) ?_
       refine imp Ai ?_
       exact fun hg=>Dp rfl (hR _ (Option.some.inj hg).symm) (fS (fS Bx))
     ·exact fun hg=>hN0 _ (Option.some.inj hg).symm _ (Bc [(0,0)] rfl rfl rfl (oR (oR (oR (oR (oR Bn))))) (Ao (Aw (cs:=[Aa a,Aa b]) (ty:=42) rfl (show Am _ 0=_ from (by first|rfl|(simp (disch:=first|decide|assumption) only [lk])))) Bb))
    ·exact fun hg=>hN0 _ (Option.some.inj hg).symm _ (Bc [(0,0)] rfl rfl rfl (oR (oR (oR (oR (oR Bn))))) (Ao (Aw (cs:=[Aa a,Aa b]) (ty:=42) rfl (show Am _ 0=_ from (by first|rfl|(simp (disch:=first|decide|assumption) only [lk])))) Bb))
   ·exact fun hg=>hN0 _ (Option.some.inj hg).symm _ (Bc [(0,0)] rfl rfl rfl (oR (oR (oR (oR (oR Bn))))) (Ao (Aw (cs:=[Aa a,Aa b]) (ty:=42) rfl (show Am _ 0=_ from (by first|rfl|(simp (disch:=first|decide|assumption) only [lk])))) Bb))
 ·exact fun hg=>Dp rfl (hR _ (Option.some.inj hg).symm) (fS (fS Bx))
theorem Yh (n:Nat) (a b c d:Int) {t:U2} (R:AV→Mem→Prop) (hR:∀r:U2,t=r→∀u m,C2 ((AV.B4 [Aa r.1,Aa r.2])) u m→R u m) (k:Nat) (x:Int) (hx:Bt (fun y:Int=>Ms n a b c d y) k x=some t) {s:St} (hw:Cl KK 103 0 s (Ur a a b x c d [])):C6 pg KK 103 0 (.loop W9) s (Yy R):=
 Aea R (σ:=Nat×(Int)) (fun z=>Bt (fun y:Int=>Ms n a b c d y) z.1 z.2=some t) (fun z=>a) (fun z=>a) (fun z=>b) (fun z=>z.2) (fun z=>c) (fun z=>d) (fun z=>[]) (fun z=>z.1) (by
  rintro ⟨k,y⟩ h
  cases k with
  |zero=>exact (Cz h).elim
  |succ k=>
   obtain ⟨u,f,g,i⟩:=Cv h
   exact mJ n a b c d y R _ (fun r e=>hR r (i _ e).symm) (fun y' e s' hw=>⟨(k,y'),g _ e,Nat.lt_succ_self k,hw⟩) f) (k,x) hx hw
theorem Aa0 (n:Nat) (a:TP) {t:U2} (R:AV→Mem→Prop) (hR:∀r:U2,t=r→∀u m,C2 ((AV.B4 [Aa r.1,Aa r.2])) u m→R u m):g41 n a=some t→F41 a.X a.Y R:=by
 unfold g41 F41
 refine Aq (fun _=> ?_) (fun _=> ?_)
 ·exact fun hg=>Dp rfl (hR _ (Option.some.inj hg).symm) (fS (fS Bx))
 ·refine Aq (fun _=> ?_) (fun _=> ?_)
  ·exact fun hg=>Dp rfl (hR _ (Option.some.inj hg).symm) (fS (fS Bx))
  ·refine Aq (fun _=> ?_) (fun _=> ?_)
   ·exact fun hg=>Dp rfl (hR _ (Option.some.inj hg).symm) (fS (fS Bx))
   ·refine Aq (fun _=> ?_) (fun _=> ?_)
    ·exact fun hg=>Dp rfl (hR _ (Option.some.inj hg).symm) (fS (fS Bx))
    ·refine Aq (fun _=> ?_) (fun _=> ?_)
     ·refine Aq (fun _=> ?_) (fun _=> ?_)
      ·exact fun hg=>Dp rfl (hR _ (Option.some.inj hg).symm) (fS (fS Bx))
      ·refine iq (Ci (Jn a.X)) (K0 Bi Bi) ?_
       refine imp D1 ?_
       refine iq (Ci (Jn a.Y)) (K0 Bi Bi) ?_
       refine imp D1 ?_
       refine At fun j d=> ?_
       refine imp (An (Ad1 d)) ?_
       refine imp D1 ?_
       refine Ax fun k=> ?_
       refine M7 fun l=> ?_
       refine At fun o e=> ?_
       refine imp (An (Ac1 e)) ?_
       refine imp D1 ?_
       refine At fun b f=> ?_
       refine iq (Aa b) (N9 Bi Bi f) ?_
       refine imp Ai ?_
       exact fun hg=>Yh n (0) b a.X a.Y R hR n _ hg (Bc [(0,0)] rfl rfl rfl (oR (oR (oR (oR (oR Bn))))) (Ao (Aw (cs:=[Aa a.X,Aa a.Y]) (ty:=42) rfl (show Am _ 0=_ from (by first|rfl|(simp (disch:=first|decide|assumption) only [lk])))) Bb))
     ·refine iq (Ci (Jn a.X)) (K0 Bi Bi) ?_
      refine imp D1 ?_
      refine iq (Ci (Jn a.Y)) (K0 Bi Bi) ?_
      refine imp D1 ?_
      refine At fun p g=> ?_
      refine imp (An (Ad1 g)) ?_
      refine imp D1 ?_
      refine Ax fun q=> ?_
      refine M7 fun s=> ?_
      refine At fun v h=> ?_
      refine imp (An (Ac1 h)) ?_
      refine imp D1 ?_
      refine At fun c i=> ?_
      refine iq (Aa c) (N9 Bi Bi i) ?_
      refine imp Ai ?_
      exact fun hg=>Yh n (0) c a.X a.Y R hR n _ hg (Bc [(0,0)] rfl rfl rfl (oR (oR (oR (oR (oR Bn))))) (Ao (Aw (cs:=[Aa a.X,Aa a.Y]) (ty:=42) rfl (show Am _ 0=_ from (by first|rfl|(simp (disch:=first|decide|assumption) only [lk])))) Bb))
theorem Afr {n:Nat} {a:TP} {t:U2} (h:g41 n a=some t):Dc pg KK.gl 41 [AV.agg [Aa a.X,Aa a.Y]] ((AV.B4 [Aa t.1,Aa t.2])):=
 A1 (by first|rfl|simp [Av,clean,Al,En.Di]) (by first|rfl|simp [Av,clean,Al,En.Di]) (u7 a.X a.Y _ (Aa0 n a (C2 ((AV.B4 [Aa t.1,Aa t.2]))) (fun r e u m h=>by rw [e];exact h) h))
end Go.Proofs.YtmhnnmfcjdnlhaaGreatDoor
