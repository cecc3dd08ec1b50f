/- A part. -/
import Derived.Test.YtmhnnmfcjdnlhaaGreatDoorX1E4
import Derived.Test.YtmhnnmfcjdnlhaaGreatDoorRfH
import Derived.Test.YtmhnnmfcjdnlhaaGreatDoorNrH
set_option linter.unusedVariables false
set_option linter.unusedSimpArgs false
set_option maxRecDepth 100000
set_option maxHeartbeats 4000000
namespace Go.Proofs.YtmhnnmfcjdnlhaaGreatDoor
theorem Abn (n:Nat) (c d:Int) {t:vW} (R:AV→Mem→Prop) (hR:∀r:vW,t=r→∀u m,C2 ((AV.B4 [AV.agg (TP.E.enc r.1),Aa r.2])) u m→R u m):g66 n c d=some t→F66 c d R:=by
 unfold g66 F66
 refine Aq (fun _=> ?_) (fun _=> ?_)
 ·refine iq (AV.agg [Aa (0),Aa (0)]) rfl ?_
  refine imp (Ce (sz:=2) Bi Bi rfl rfl (cs:=[Aa (0),Aa (0)]) (cs':=[Aa (0),Aa (0)]) (ty:=42) (by first|rfl|(simp (disch:=first|decide|assumption) only [lk])) rfl rfl) ?_
  exact fun hg=>Dp rfl (hR _ (Option.some.inj hg).symm) (Ck (Gi (E:=TP.E) _ (⟨0,0⟩:TP)) (fS Bx))
 ·refine Aq (fun _=> ?_) (fun _=> ?_)
  ·refine iq (AV.agg [Aa (0),Aa (0)]) rfl ?_
   refine imp (Ce (sz:=2) Bi Bi rfl rfl (cs:=[Aa (0),Aa (0)]) (cs':=[Aa (0),Aa (0)]) (ty:=42) (by first|rfl|(simp (disch:=first|decide|assumption) only [lk])) rfl rfl) ?_
   exact fun hg=>Dp rfl (hR _ (Option.some.inj hg).symm) (Ck (Gi (E:=TP.E) _ (⟨0,0⟩:TP)) (fS Bx))
  ·refine At fun i e=> ?_
   refine imp (An (Acw e)) ?_
   refine imp Ai ?_
   refine At fun a f=> ?_
   refine imp (An (Aei f)) ?_
   refine imp Ai ?_
   refine At fun j g=> ?_
   refine imp (An (Adi g)) ?_
   refine imp Ai ?_
   refine At fun b h=> ?_
   refine imp (An (Aei h)) ?_
   refine imp Ai ?_
   refine iq (AV.agg [Aa a,Aa b]) rfl ?_
   refine imp (Ce (sz:=2) Bi Bi rfl rfl (cs:=[Aa (0),Aa (0)]) (cs':=[Aa a,Aa b]) (ty:=42) (by first|rfl|(simp (disch:=first|decide|assumption) only [lk])) rfl rfl) ?_
   exact fun hg=>Dp rfl (hR _ (Option.some.inj hg).symm) (Ck (Gi (E:=TP.E) _ (⟨a,b⟩:TP)) (fS Bx))
theorem Agt {n:Nat} {a:Int} {b:Int} {t:vW} (h:g66 n a b=some t):Dc pg KK.gl 66 [Aa a,Aa b] ((AV.B4 [AV.agg (TP.E.enc t.1),Aa t.2])):=
 A1 (by first|rfl|simp [Av,clean,Al,En.Di]) (by first|rfl|simp [Av,clean,Al,En.Di]) (pO a b _ (Abn n a b (C2 ((AV.B4 [AV.agg (TP.E.enc t.1),Aa t.2]))) (fun r e u m h=>by rw [e];exact h) h))
theorem p9 (n:Nat) (c:Int) (c6:Bool) (d:List (List Ab)) (e g:Int) {t:(Int)⊕wL} (R:AV→Mem→Prop) (N0:St→Prop) (hR:∀r:wL,t=(.inr r)→∀u m,C2 ((Ah r)) u m→R u m) (hN0:∀y:Int,t=(.inl y)→∀s':St,Cl KK 41 0 s' (fP c c6 (As (Ct Ab.E) d) e y [])→N0 s'):Y7 n c c6 d e g=some t→o6 c c6 (As (Ct Ab.E) d) e g [] R N0:=by
 unfold Y7 o6
 refine Aq (fun _=> ?_) (fun _=> ?_)
 ·refine At fun f h=> ?_
  refine iq (AV.Dn [As Ab.E f] 0) (C5 (E:=(Ct Ab.E)) rfl h) ?_
  refine iq (As Ab.E f) rfl ?_
  refine At fun l i=> ?_
  refine imp (An (hG i)) ?_
  refine imp Ai ?_
  refine Aq (fun _=> ?_) (fun _=> ?_)
  ·exact C9 hR rfl rfl
  ·refine iq (Aa (f.length:Int)) rfl ?_
   refine imp Ai ?_
   refine At fun a j=> ?_
   refine iq (AV.Dn [Aa a.Ac,Aa a.Ak,Aa a.Aj,Aa a.Ad,Aa a.Ay,Aa a.Br] 0) (C5 (E:=Ab.E) rfl j) ?_
   refine iq (AV.Dn [Aa a.Ac,Aa a.Ak,Aa a.Aj,Aa a.Ad,Aa a.Ay,Aa a.Br] 0) rfl ?_
   refine iq (AV.Dn [Aa a.Ac,Aa a.Ak,Aa a.Aj,Aa a.Ad,Aa a.Ay,Aa a.Br] 0) rfl ?_
   refine iq (Aa a.Ac) rfl ?_
   refine imp Ai ?_
   refine At fun b k=> ?_
   refine iq (AV.Dn [Aa b.Ac,Aa b.Ak,Aa b.Aj,Aa b.Ad,Aa b.Ay,Aa b.Br] 0) (C5 (E:=Ab.E) rfl k) ?_
   refine iq (AV.Dn [Aa b.Ac,Aa b.Ak,Aa b.Aj,Aa b.Ad,Aa b.Ay,Aa b.Br] 0) rfl ?_
   refine iq (AV.Dn [Aa b.Ac,Aa b.Ak,Aa b.Aj,Aa b.Ad,Aa b.Ay,Aa b.Br] 0) rfl ?_
   refine iq (Aa b.Ac) rfl ?_
   refine imp Ai ?_
   refine Aq (fun _=> ?_) (fun _=> ?_)
   ·exact C9 hR rfl rfl
   ·exact fun hg=>hN0 _ (Option.some.inj hg).symm _ (Bc [] rfl rfl rfl (oR (oR (A9 (Bz (E:=(Ct Ab.E)) _ false) (oR (oR Bn))))) Bb)
 ·exact C9 hR rfl rfl
theorem wV (n:Nat) (a:Int) (c6:Bool) (b:List (List Ab)) (c:Int) {t:wL} (R:AV→Mem→Prop) (hR:∀r:wL,t=r→∀u m,C2 ((Ah r)) u m→R u m) (k:Nat) (x:Int) (hx:Bt (fun y:Int=>Y7 n a c6 b c y) k x=some t) {s:St} (hw:Cl KK 41 0 s (fP a c6 (As (Ct Ab.E) b) c x [])):C6 pg KK 41 0 (.loop pL) s (tO R):=
 Afp R (σ:=Nat×(Int)) (fun z=>Bt (fun y:Int=>Y7 n a c6 b c y) z.1 z.2=some t) (fun z=>a) (fun z=>c6) (fun z=>(As (Ct Ab.E) b)) (fun z=>c) (fun z=>z.2) (fun z=>[]) (fun z=>z.1) (by
  rintro ⟨k,y⟩ h
  cases k with
  |zero=>exact (Cz h).elim
  |succ k=>
   obtain ⟨u,d,f,g⟩:=Cv h
   exact p9 n a c6 b c y R _ (fun r e=>hR r (g _ e).symm) (fun y' e s' hw=>⟨(k,y'),f _ e,Nat.lt_succ_self k,hw⟩) d) (k,x) hx hw
theorem Aen (n:Nat) (a:List (List Ab)) (c b:Int) {t:wL} (R:AV→Mem→Prop) (hR:∀r:wL,t=r→∀u m,C2 ((Ah r)) u m→R u m):g5 n a c b=some t→F5 (As (Ct Ab.E) a) c b R:=by
 unfold g5 F5
 refine iq (Aa (a.length:Int)) rfl ?_
 refine imp Ai ?_
 refine Aq (fun _=> ?_) (fun _=> ?_)
 ·exact C9 hR rfl rfl
 ·refine iq (Aa (a.length:Int)) rfl ?_
  refine imp Ai ?_
  exact fun hg=>wV n b false a (a.length:Int) R hR n _ hg (Bc [] rfl rfl rfl (oR (oR (A9 (Bz (E:=(Ct Ab.E)) _ false) (oR (oR Bn))))) Bb)
theorem sg5 {n:Nat} {a:List (List Ab)} {b:Int} {c:Int} {t:wL} (h:g5 n a b c=some t):Dc pg KK.gl 5 [As (Ct Ab.E) a,Aa b,Aa c] ((Ah t)):=
 A1 (by first|rfl|simp [Av,clean,Al,En.Di]) (by first|rfl|simp [Av,clean,Al,En.Di]) (z8 (As (Ct Ab.E) a) b c _ (Aen n a b c (C2 ((Ah t))) (fun r e u m h=>by rw [e];exact h) h))
theorem jT (n:Nat) (a:List (List Ab)) (b c6 Uv c:Int) {t:(Int)⊕Wc} (R:AV→Mem→Prop) (N0:St→Prop) (hR:∀r:Wc,t=(.inr r)→∀u m,C2 ((Aa r)) u m→R u m) (hN0:∀y:Int,t=(.inl y)→∀s':St,Cl KK 39 0 s' (T0 (As (Ct Ab.E) a) b c6 (As (Ct Ab.E) a) Uv y [])→N0 s'):Ka n a b c6 Uv c=some t→eL (As (Ct Ab.E) a) b c6 (As (Ct Ab.E) a) Uv c [] R N0:=by
 unfold Ka eL
 refine Aq (fun _=> ?_) (fun _=> ?_)
 ·refine At fun d e=> ?_
  refine iq (AV.Dn [As Ab.E d] 0) (C5 (E:=(Ct Ab.E)) rfl e) ?_
  refine iq (As Ab.E d) rfl ?_
  refine At fun g f=> ?_
  refine imp (An (hG f)) ?_
  refine imp Ai ?_
  refine Aq (fun _=> ?_) (fun _=> ?_)
  ·exact C9 hR rfl rfl
  ·exact fun hg=>hN0 _ (Option.some.inj hg).symm _ (Bc [] rfl rfl rfl (A9 (Bz (E:=(Ct Ab.E)) _ false) (oR (oR (A9 (Bz (E:=(Ct Ab.E)) _ false) (oR (oR Bn)))))) Bb)
 ·refine Aq (fun _=> ?_) (fun _=> ?_)
  ·exact C9 hR rfl rfl
  ·refine iq (Aa (a.length:Int)) rfl ?_
   refine imp Ai ?_
   refine Aq (fun _=> ?_) (fun _=> ?_)
   ·exact C9 hR rfl rfl
   ·exact C9 hR rfl rfl
theorem lE (n:Nat) (a:List (List Ab)) (b c6 Uv:Int) {t:Wc} (R:AV→Mem→Prop) (hR:∀r:Wc,t=r→∀u m,C2 ((Aa r)) u m→R u m) (k:Nat) (x:Int) (hx:Bt (fun y:Int=>Ka n a b c6 Uv y) k x=some t) {s:St} (hw:Cl KK 39 0 s (T0 (As (Ct Ab.E) a) b c6 (As (Ct Ab.E) a) Uv x [])):C6 pg KK 39 0 (.loop eE) s (bR R):=
 Aer R (σ:=Nat×(Int)) (fun z=>Bt (fun y:Int=>Ka n a b c6 Uv y) z.1 z.2=some t) (fun z=>(As (Ct Ab.E) a)) (fun z=>b) (fun z=>c6) (fun z=>(As (Ct Ab.E) a)) (fun z=>Uv) (fun z=>z.2) (fun z=>[]) (fun z=>z.1) (by
  rintro ⟨k,y⟩ h
  cases k with
  |zero=>exact (Cz h).elim
  |succ k=>
   obtain ⟨u,c,d,f⟩:=Cv h
   exact jT n a b c6 Uv y R _ (fun r e=>hR r (f _ e).symm) (fun y' e s' hw=>⟨(k,y'),d _ e,Nat.lt_succ_self k,hw⟩) c) (k,x) hx hw
theorem Ab9 (n:Nat) (a:List (List Ab)) (b:Int) (c:Ea) {t:Wc} (R:AV→Mem→Prop) (hR:∀r:Wc,t=r→∀u m,C2 ((Aa r)) u m→R u m):g18 n a b c=some t→F18 (As (Ct Ab.E) a) b c.Bu c.Bj R:=by
 unfold g18 F18
 refine At fun e d=> ?_
 refine imp (An (Ae4 d)) ?_
 refine imp Ai ?_
 refine Aq (fun _=> ?_) (fun _=> ?_)
 ·exact C9 hR rfl rfl
 ·refine iq (Aa (a.length:Int)) rfl ?_
  refine imp Ai ?_
  refine Aq (fun _=> ?_) (fun _=> ?_)
  ·exact C9 hR rfl rfl
  ·refine iq (Aa (a.length:Int)) rfl ?_
   refine imp Ai ?_
   exact fun hg=>lE n a b (0) (a.length:Int) R hR n _ hg (Bc [] rfl rfl rfl (A9 (Bz (E:=(Ct Ab.E)) _ false) (oR (oR (A9 (Bz (E:=(Ct Ab.E)) _ false) (oR (oR Bn)))))) Bb)
theorem Age {n:Nat} {b:List (List Ab)} {c:Int} {a:Ea} {t:Wc} (h:g18 n b c a=some t):Dc pg KK.gl 18 [As (Ct Ab.E) b,Aa c,AV.agg [Aa a.Bu,Aa a.Bj]] ((Aa t)):=
 A1 (by first|rfl|simp [Av,clean,Al,En.Di]) (by first|rfl|simp [Av,clean,Al,En.Di]) (pD (As (Ct Ab.E) b) c a.Bu a.Bj _ (Ab9 n b c a (C2 ((Aa t))) (fun r e u m h=>by rw [e];exact h) h))
theorem jM (n:Nat) (a:Bool) (b:List UInt8) (c d:Int) {t:(Int)⊕Vx} (R:AV→Mem→Prop) (N0:St→Prop) (hR:∀r:Vx,t=(.inr r)→∀u m,C2 ((Ah r)) u m→R u m) (hN0:∀y:Int,t=(.inl y)→∀s':St,Cl KK 41 0 s' (Ti a (As Im b) c y [])→N0 s'):Mr n a b c d=some t→dA a (As Im b) c d [] R N0:=by
 unfold Mr dA
 refine Aq (fun _=> ?_) (fun _=> ?_)
 ·refine At fun e f=> ?_
  refine iq (AV.Dn [AV.sc (.int .u8 (e.toNat:Int))] 0) (C5 (E:=Im) rfl f) ?_
  refine iq (AV.sc (.int .u8 (e.toNat:Int))) rfl ?_
  refine imp tH ?_
  refine Aq (fun _=> ?_) (fun _=> ?_)
  ·refine Aq (fun _=> ?_) (fun _=> ?_)
   ·exact fun hg=>hN0 _ (Option.some.inj hg).symm _ (Bc [] rfl rfl rfl (oR (A9 (Bz (E:=Im) _ false) (oR (oR Bn)))) Bb)
   ·refine Aq (fun _=> ?_) (fun _=> ?_)
    ·refine Aq (fun _=> ?_) (fun _=> ?_)
     ·refine Aq (fun _=> ?_) (fun _=> ?_)
      ·exact C9 hR rfl rfl
      ·exact fun hg=>hN0 _ (Option.some.inj hg).symm _ (Bc [] rfl rfl rfl (oR (A9 (Bz (E:=Im) _ false) (oR (oR Bn)))) Bb)
     ·exact C9 hR rfl rfl
    ·exact C9 hR rfl rfl
  ·refine Aq (fun _=> ?_) (fun _=> ?_)
   ·refine Aq (fun _=> ?_) (fun _=> ?_)
    ·refine Aq (fun _=> ?_) (fun _=> ?_)
     ·exact C9 hR rfl rfl
     ·exact fun hg=>hN0 _ (Option.some.inj hg).symm _ (Bc [] rfl rfl rfl (oR (A9 (Bz (E:=Im) _ false) (oR (oR Bn)))) Bb)
    ·exact C9 hR rfl rfl
   ·exact C9 hR rfl rfl
 ·exact C9 hR rfl rfl
theorem oA (n:Nat) (a:Bool) (b:List UInt8) (c:Int) {t:Vx} (R:AV→Mem→Prop) (hR:∀r:Vx,t=r→∀u m,C2 ((Ah r)) u m→R u m) (k:Nat) (x:Int) (hx:Bt (fun y:Int=>Mr n a b c y) k x=some t) {s:St} (hw:Cl KK 41 0 s (Ti a (As Im b) c x [])):C6 pg KK 41 0 (.loop eJ) s (eQ R):=
 Ae0 R (σ:=Nat×(Int)) (fun z=>Bt (fun y:Int=>Mr n a b c y) z.1 z.2=some t) (fun z=>a) (fun z=>(As Im b)) (fun z=>c) (fun z=>z.2) (fun z=>[]) (fun z=>z.1) (by
  rintro ⟨k,y⟩ h
  cases k with
  |zero=>exact (Cz h).elim
  |succ k=>
   obtain ⟨u,d,f,g⟩:=Cv h
   exact jM n a b c y R _ (fun r e=>hR r (g _ e).symm) (fun y' e s' hw=>⟨(k,y'),f _ e,Nat.lt_succ_self k,hw⟩) d) (k,x) hx hw
theorem Abf (n:Nat) (a:ByteArray) {t:Vx} (R:AV→Mem→Prop) (hR:∀r:Vx,t=r→∀u m,C2 ((Ah r)) u m→R u m):g37 n a=some t→F37 a R:=by
 unfold g37 F37
 refine iq (Aa (a.size:Int)) Bi ?_
 refine imp Ai ?_
 refine Aq (fun _=> ?_) (fun _=> ?_)
 ·exact C9 hR rfl rfl
 ·refine iq (Aa (a.size:Int)) Bi ?_
  refine imp Ai ?_
  refine Aq (fun _=> ?_) (fun _=> ?_)
  ·exact C9 hR rfl rfl
  ·refine At fun c b=> ?_
   refine iq (As Im (a.data.toList)) (iH (e:=5) Bi Bi Bi b) ?_
   refine iq (Aa ((a.data.toList).length:Int)) rfl ?_
   refine imp Ai ?_
   exact fun hg=>oA n false (a.data.toList) ((a.data.toList).length:Int) R hR n _ hg (Bc [] rfl rfl rfl (oR (A9 (Bz (E:=Im) _ false) (oR (oR Bn)))) Bb)
theorem Adk {n:Nat} {a:ByteArray} {t:Vx} (h:g37 n a=some t):Dc pg KK.gl 37 [Az a] ((Ah t)):=
 A1 (by first|rfl|simp [Av,clean,Al,En.Di]) (by first|rfl|simp [Av,clean,Al,En.Di]) (vD a _ (Abf n a (C2 ((Ah t))) (fun r e u m h=>by rw [e];exact h) h))
theorem Aaz (n:Nat) (a b:Int) {t:uF} (R:AV→Mem→Prop) (hR:∀r:uF,t=r→∀u m,C2 ((Ah r)) u m→R u m):oP n a b=some t→F36 a b R:=by
 unfold oP F36
 refine Aq (fun _=> ?_) (fun _=> ?_)
 ·exact C9 hR rfl rfl
 ·exact C9 hR rfl rfl
theorem iX {n:Nat} {a:Int} {b:Int} {t:uF} (h:oP n a b=some t):Dc pg KK.gl 36 [Aa a,Aa b] ((Ah t)):=
 A1 (by first|rfl|simp [Av,clean,Al,En.Di]) (by first|rfl|simp [Av,clean,Al,En.Di]) (wC a b _ (Aaz n a b (C2 ((Ah t))) (fun r e u m h=>by rw [e];exact h) h))
theorem Aaw (n:Nat) (a:Dm) {t:sK} (R:AV→Mem→Prop) (hR:∀r:sK,t=r→∀u m,C2 ((Aa r)) u m→R u m):gN n a=some t→F20 a.Name a.D9 a.B6 a.C1 a.Ca a.Dy a.Dz R:=by
 unfold gN F20
 refine At fun h b=> ?_
 refine imp (An (Adk b)) ?_
 refine imp Eh ?_
 refine Aq (fun _=> ?_) (fun _=> ?_)
 ·exact C9 hR rfl rfl
 ·refine Aq (fun _=> ?_) (fun _=> ?_)
  ·exact C9 hR rfl rfl
  ·refine Aq (fun _=> ?_) (fun _=> ?_)
   ·exact C9 hR rfl rfl
   ·refine At fun i c=> ?_
    refine imp (An (iX c)) ?_
    refine imp Eh ?_
    refine Aq (fun _=> ?_) (fun _=> ?_)
    ·exact C9 hR rfl rfl
    ·refine At fun j d=> ?_
     refine imp (An (iX d)) ?_
     refine imp Eh ?_
     refine Aq (fun _=> ?_) (fun _=> ?_)
     ·exact C9 hR rfl rfl
     ·refine At fun k e=> ?_
      refine imp (An (iX e)) ?_
      refine imp Eh ?_
      refine Aq (fun _=> ?_) (fun _=> ?_)
      ·exact C9 hR rfl rfl
      ·refine At fun l f=> ?_
       refine imp (An (iX f)) ?_
       refine imp Eh ?_
       refine Aq (fun _=> ?_) (fun _=> ?_)
       ·exact C9 hR rfl rfl
       ·refine At fun o g=> ?_
        refine imp (An (iX g)) ?_
        refine imp Eh ?_
        refine Aq (fun _=> ?_) (fun _=> ?_)
        ·exact C9 hR rfl rfl
        ·refine Aq (fun _=> ?_) (fun _=> ?_)
         ·exact C9 hR rfl rfl
         ·exact C9 hR rfl rfl
theorem zV {n:Nat} {a:Dm} {t:sK} (h:gN n a=some t):Dc pg KK.gl 20 [AV.agg [Az a.Name,Aa a.D9,Aa a.B6,Aa a.C1,Aa a.Ca,Aa a.Dy,Aa a.Dz]] ((Aa t)):=
 A1 (by first|rfl|simp [Av,clean,Al,En.Di]) (by first|rfl|simp [Av,clean,Al,En.Di]) (wR a.Name a.D9 a.B6 a.C1 a.Ca a.Dy a.Dz _ (Aaw n a (C2 ((Aa t))) (fun r e u m h=>by rw [e];exact h) h))
theorem mS (n:Nat) (a:List ByteArray) (b:ByteArray) (c c7 d:Int) {t:(Int)⊕Ww} (R:AV→Mem→Prop) (N0:St→Prop) (hR:∀r:Ww,t=(.inr r)→∀u m,C2 ((Aa r)) u m→R u m) (hN0:∀y:Int,t=(.inl y)→∀s':St,Cl KK 19 0 s' (Ug (As Ob a) b c c7 y [])→N0 s'):P9 n a b c c7 d=some t→dD (As Ob a) b c c7 d [] R N0:=by
 unfold P9 dD
 refine Aq (fun _=> ?_) (fun _=> ?_)
 ·refine At fun e f=> ?_
  refine iq (AV.Dn [Az e] 0) (C5 (E:=Ob) rfl f) ?_
  refine iq (Az e) rfl ?_
  refine imp Dh ?_
  refine Aq (fun _=> ?_) (fun _=> ?_)
  ·exact C9 hR rfl rfl
  ·exact fun hg=>hN0 _ (Option.some.inj hg).symm _ (Bc [] rfl rfl rfl (A9 (Bz (E:=Ob) _ false) (oR (oR (oR (oR Bn))))) Bb)
 ·exact C9 hR rfl rfl
theorem n6 (n:Nat) (a:List ByteArray) (b:ByteArray) (c c7:Int) {t:Ww} (R:AV→Mem→Prop) (hR:∀r:Ww,t=r→∀u m,C2 ((Aa r)) u m→R u m) (k:Nat) (x:Int) (hx:Bt (fun y:Int=>P9 n a b c c7 y) k x=some t) {s:St} (hw:Cl KK 19 0 s (Ug (As Ob a) b c c7 x [])):C6 pg KK 19 0 (.loop cA) s (eV R):=
 Ae9 R (σ:=Nat×(Int)) (fun z=>Bt (fun y:Int=>P9 n a b c c7 y) z.1 z.2=some t) (fun z=>(As Ob a)) (fun z=>b) (fun z=>c) (fun z=>c7) (fun z=>z.2) (fun z=>[]) (fun z=>z.1) (by
  rintro ⟨k,y⟩ h
  cases k with
  |zero=>exact (Cz h).elim
  |succ k=>
   obtain ⟨u,d,f,g⟩:=Cv h
   exact mS n a b c c7 y R _ (fun r e=>hR r (g _ e).symm) (fun y' e s' hw=>⟨(k,y'),f _ e,Nat.lt_succ_self k,hw⟩) d) (k,x) hx hw
theorem zT (n:Nat) (a:List ByteArray) (b:ByteArray) {t:Ww} (R:AV→Mem→Prop) (hR:∀r:Ww,t=r→∀u m,C2 ((Aa r)) u m→R u m):g71 n a b=some t→F71 (As Ob a) b R:=by
 unfold g71 F71
 refine iq (Aa (a.length:Int)) rfl ?_
 refine imp Ai ?_
 exact fun hg=>n6 n a b (0) (a.length:Int) R hR n _ hg (Bc [] rfl rfl rfl (A9 (Bz (E:=Ob) _ false) (oR (oR (oR (oR Bn))))) Bb)
theorem Aft {n:Nat} {a:List ByteArray} {b:ByteArray} {t:Ww} (h:g71 n a b=some t):Dc pg KK.gl 71 [As Ob a,Az b] ((Aa t)):=
 A1 (by first|rfl|simp [Av,clean,Al,En.Di]) (by first|rfl|simp [Av,clean,Al,En.Di]) (rG (As Ob a) b _ (zT n a b (C2 ((Aa t))) (fun r e u m h=>by rw [e];exact h) h))
theorem zQ (n:Nat) (a:ByteArray) {t:w6} (R:AV→Mem→Prop) (hR:∀r:w6,t=r→∀u m,C2 ((Aa r)) u m→R u m):g55 n a=some t→F55 a R:=by
 unfold g55 F55
 refine iq (AV.Ek (([(⟨#[72,69,73,71,72,84]⟩:ByteArray),(⟨#[72,69,65,68,73,78,71]⟩:ByteArray),(⟨#[83,80,69,69,68]⟩:ByteArray),(⟨#[68,73,82,69,67,84]⟩:ByteArray),(⟨#[72,79,76,68]⟩:ByteArray),(⟨#[67,79,78,84,65,67,84]⟩:ByteArray),(⟨#[76,65,78,68]⟩:ByteArray)]:List ByteArray)).length (Bl Ob ([(⟨#[72,69,73,71,72,84]⟩:ByteArray),(⟨#[72,69,65,68,73,78,71]⟩:ByteArray),(⟨#[83,80,69,69,68]⟩:ByteArray),(⟨#[68,73,82,69,67,84]⟩:ByteArray),(⟨#[72,79,76,68]⟩:ByteArray),(⟨#[67,79,78,84,65,67,84]⟩:ByteArray),(⟨#[76,65,78,68]⟩:ByteArray)]:List ByteArray)) true) Bi ?_
 refine At fun c b=> ?_
 refine imp (Zc (dE lB (dE (L5 _) Ace)) (Aft b)) ?_
 refine imp Ai ?_
 exact C9 hR rfl rfl
theorem Ags {n:Nat} {a:ByteArray} {t:w6} (h:g55 n a=some t):Dc pg KK.gl 55 [Az a] ((Aa t)):=
 A1 (by first|rfl|simp [Av,clean,Al,En.Di]) (by first|rfl|simp [Av,clean,Al,En.Di]) (sR a _ (zQ n a (C2 ((Aa t))) (fun r e u m h=>by rw [e];exact h) h))
theorem Abi (n:Nat) (a:ByteArray) {t:xE} (R:AV→Mem→Prop) (hR:∀r:xE,t=r→∀u m,C2 ((Ah r)) u m→R u m):qE n a=some t→F40 a R:=by
 unfold qE F40
 refine At fun d b=> ?_
 refine imp (An (Adk b)) ?_
 refine imp Eh ?_
 refine Aq (fun _=> ?_) (fun _=> ?_)
 ·refine At fun e c=> ?_
  refine imp (An (Ags c)) ?_
  refine imp Ai ?_
  exact C9 hR rfl rfl
 ·exact C9 hR rfl rfl
theorem Adp {n:Nat} {a:ByteArray} {t:xE} (h:qE n a=some t):Dc pg KK.gl 40 [Az a] ((Ah t)):=
 A1 (by first|rfl|simp [Av,clean,Al,En.Di]) (by first|rfl|simp [Av,clean,Al,En.Di]) (wT a _ (Abi n a (C2 ((Ah t))) (fun r e u m h=>by rw [e];exact h) h))
theorem Abj (n:Nat) (a:Ae) {t:qS} (R:AV→Mem→Prop) (hR:∀r:qS,t=r→∀u m,C2 ((Aa r)) u m→R u m):iT n a=some t→F22 a.Call a.Kind a.Value a.Fix R:=by
 unfold iT F22
 refine At fun f c=> ?_
 refine imp (An (Adp c)) ?_
 refine imp Eh ?_
 refine Aq (fun _=> ?_) (fun _=> ?_)
 ·exact C9 hR rfl rfl
 ·refine Aq (fun _=> ?_) (fun _=> ?_)
  ·exact C9 hR rfl rfl
  ·refine Aq (fun _=> ?_) (fun _=> ?_)
   ·exact C9 hR rfl rfl
   ·refine Aq (fun _=> ?_) (fun _=> ?_)
    ·refine Aq (fun _=> ?_) (fun _=> ?_)
     ·exact C9 hR rfl rfl
     ·refine At fun g d=> ?_
      refine imp (An (Adp d)) ?_
      refine imp Eh ?_
      refine Aq (fun _=> ?_) (fun _=> ?_)
      ·exact C9 hR rfl rfl
      ·exact C9 hR rfl rfl
    ·refine Aq (fun _=> ?_) (fun _=> ?_)
     ·exact C9 hR rfl rfl
     ·refine Aq (fun _=> ?_) (fun _=> ?_)
      ·exact C9 hR rfl rfl
      ·refine At fun e b=> ?_
       refine iq (AV.Dn [Aa (60000),Aa (4095),Aa (400)] (((a.Kind:Int).toNat)*1+0)) (iJ (l:=([60000,4095,400]:List Int)) (len:=3) rfl b) ?_
       refine iq (Aa e) (Za (E:=Zy) (l:=([60000,4095,400]:List Int)) (o:=0) rfl (C0 b).2 rfl (by decide) rfl) ?_
       refine imp Ai ?_
       refine Aq (fun _=> ?_) (fun _=> ?_)
       ·exact C9 hR rfl rfl
       ·exact C9 hR rfl rfl
theorem Ac8 {n:Nat} {a:Ae} {t:qS} (h:iT n a=some t):Dc pg KK.gl 22 [AV.agg [Az a.Call,Aa a.Kind,Aa a.Value,Az a.Fix]] ((Aa t)):=
 A1 (by first|rfl|simp [Av,clean,Al,En.Di]) (by first|rfl|simp [Av,clean,Al,En.Di]) (tR a.Call a.Kind a.Value a.Fix _ (Abj n a (C2 ((Aa t))) (fun r e u m h=>by rw [e];exact h) h))
theorem mL (n:Nat) (b:Int) (c6:Bool) (i:List Ab) (j c d e f g h k:Int) {t:(Int)⊕Wo} (R:AV→Mem→Prop) (N0:St→Prop) (hR:∀r:Wo,t=(.inr r)→∀u m,C2 ((AV.B4 [Aa r.1,Aa r.2.1,Ah r.2.2])) u m→R u m) (hN0:∀y:Int,t=(.inl y)→∀s':St,Cl KK 60 0 s' (Ud b b c6 (As Ab.E i) j y c d e f g h [])→N0 s'):Rn n b c6 i j c d e f g h k=some t→bZ b b c6 (As Ab.E i) j k c d e f g h [] R N0:=by
 unfold Rn bZ
 refine Aq (fun _=> ?_) (fun _=> ?_)
 ·refine At fun a l=> ?_
  refine iq (AV.Dn [Aa a.Ac,Aa a.Ak,Aa a.Aj,Aa a.Ad,Aa a.Ay,Aa a.Br] 0) (C5 (E:=Ab.E) rfl l) ?_
  refine iq (AV.agg [Aa a.Ac,Aa a.Ak,Aa a.Aj,Aa a.Ad,Aa a.Ay,Aa a.Br]) rfl ?_
  refine imp Fp ?_
  iterate 6 refine imp Ai ?_
  refine Aq (fun _=> ?_) (fun _=> ?_)
  ·refine At fun w o=> ?_
   refine imp (An (Aeq o)) ?_
   refine imp Fe ?_
   iterate 2 refine imp Ai ?_
   refine At fun x p=> ?_
   refine imp (An (Afr p)) ?_
   refine imp Dk ?_
   iterate 2 refine imp Ai ?_
   refine At fun z q=> ?_
   refine imp (An (jX q)) ?_
   refine imp Dk ?_
   iterate 2 refine imp Ai ?_
   refine At fun s v=> ?_
   refine iq (Aa (IntKind.wrap .i64 s)) (Nk v) ?_
   refine imp Ai ?_
   exact fun hg=>Dp rfl (hR _ (Option.some.inj hg).symm) (fS (fS (fS Bx)))
  ·exact fun hg=>hN0 _ (Option.some.inj hg).symm _ (Bc [(0,0)] rfl rfl rfl (oR (oR (oR (oR (A9 (Bz (E:=Ab.E) _ false) (oR (oR Bn))))))) (Ao (Aw (cs:=[Aa c,Aa d,Aa e,Aa f,Aa g,Aa h]) (ty:=47) rfl (show Am _ 0=_ from (by first|rfl|(simp (disch:=first|decide|assumption) only [lk])))) Bb))
 ·exact fun hg=>Dp rfl (hR _ (Option.some.inj hg).symm) (fS (fS (fS Bx)))
theorem mM (n:Nat) (a:Int) (c6:Bool) (b:List Ab) (c d f g i j l:Int) {t:Wo} (R:AV→Mem→Prop) (hR:∀r:Wo,t=r→∀u m,C2 ((AV.B4 [Aa r.1,Aa r.2.1,Ah r.2.2])) u m→R u m) (k:Nat) (x:Int) (hx:Bt (fun y:Int=>Rn n a c6 b c d f g i j l y) k x=some t) {s:St} (hw:Cl KK 60 0 s (Ud a a c6 (As Ab.E b) c x d f g i j l [])):C6 pg KK 60 0 (.loop cH) s (eA R):=
 Aev R (σ:=Nat×(Int)) (fun z=>Bt (fun y:Int=>Rn n a c6 b c d f g i j l y) z.1 z.2=some t) (fun z=>a) (fun z=>a) (fun z=>c6) (fun z=>(As Ab.E b)) (fun z=>c) (fun z=>z.2) (fun z=>d) (fun z=>f) (fun z=>g) (fun z=>i) (fun z=>j) (fun z=>l) (fun z=>[]) (fun z=>z.1) (by
  rintro ⟨k,y⟩ h
  cases k with
  |zero=>exact (Cz h).elim
  |succ k=>
   obtain ⟨u,o,p,q⟩:=Cv h
   exact mL n a c6 b c d f g i j l y R _ (fun r e=>hR r (q _ e).symm) (fun y' e s' hw=>⟨(k,y'),p _ e,Nat.lt_succ_self k,hw⟩) o) (k,x) hx hw
theorem Aa2 (n:Nat) (b:List Ab) (a:Ab) {t:Wo} (R:AV→Mem→Prop) (hR:∀r:Wo,t=r→∀u m,C2 ((AV.B4 [Aa r.1,Aa r.2.1,Ah r.2.2])) u m→R u m):g23 n b a=some t→F23 (As Ab.E b) a.Ac a.Ak a.Aj a.Ad a.Ay a.Br R:=by
 unfold g23 F23
 refine iq (Aa (b.length:Int)) rfl ?_
 refine imp Ai ?_
 exact fun hg=>mM n (0) false b (b.length:Int) a.Ac a.Ak a.Aj a.Ad a.Ay a.Br R hR n _ hg (Bc [(0,0)] rfl rfl rfl (oR (oR (oR (oR (A9 (Bz (E:=Ab.E) _ false) (oR (oR Bn))))))) (Ao (Aw (cs:=[Aa a.Ac,Aa a.Ak,Aa a.Aj,Aa a.Ad,Aa a.Ay,Aa a.Br]) (ty:=47) rfl (show Am _ 0=_ from (by first|rfl|(simp (disch:=first|decide|assumption) only [lk])))) Bb))
theorem Agm {n:Nat} {b:List Ab} {a:Ab} {t:Wo} (h:g23 n b a=some t):Dc pg KK.gl 23 [As Ab.E b,AV.agg [Aa a.Ac,Aa a.Ak,Aa a.Aj,Aa a.Ad,Aa a.Ay,Aa a.Br]] ((AV.B4 [Aa t.1,Aa t.2.1,Ah t.2.2])):=
 A1 (by first|rfl|simp [Av,clean,Al,En.Di]) (by first|rfl|simp [Av,clean,Al,En.Di]) (tQ (As Ab.E b) a.Ac a.Ak a.Aj a.Ad a.Ay a.Br _ (Aa2 n b a (C2 ((AV.B4 [Aa t.1,Aa t.2.1,Ah t.2.2]))) (fun r e u m h=>by rw [e];exact h) h))
theorem iP (n:Nat) (c9 ab ad:Int) (Gx:Bool) (ag ae af:Int) (f:ByteArray) (g h i k o p q s w x z aa ah:Int) (a:List Ae) (c:ByteArray) {t:(Int×List Ae×ByteArray)⊕((Int×List Ae×ByteArray)⊕Qs)} (R:AV→Mem→Prop) (N0 N1:St→Prop) (hR:∀r:Qs,t=(.inr (.inr r))→∀u m,C2 ((AV.B4 [As Ae.E r.1,Aa r.2])) u m→R u m) (hN0:∀y:Int×List Ae×ByteArray,t=(.inr (.inl y))→∀s':St,Cl KK 138 0 s' (Qk AV.B1 c9 ab ad Gx y.1 f g h i k o p q s w x z aa (B7 Ae.E 90000 y.2.1) y.2.2 [(90000,C7 Ae.E 30 y.2.1)])→N0 s') (hN1:∀y:Int×List Ae×ByteArray,t=(.inl y)→∀s':St,Cl KK 138 0 s' (Ol AV.B1 c9 ab ad Gx ag (AV.agg [Aa ae,Aa af]) y.1 f g h i k o p q s w x z aa (B7 Ae.E 90000 y.2.1) y.2.2 [(90000,C7 Ae.E 30 y.2.1)])→N1 s'):Kn n c9 ab ad Gx ag ae af f g h i k o p q s w x z aa ah a c=some t→Uy AV.B1 c9 ab ad Gx ag (AV.agg [Aa ae,Aa af]) ah f g h i k o p q s w x z aa (B7 Ae.E 90000 a) c [(90000,C7 Ae.E 30 a)] R N0 N1:=by
 unfold Kn Uy
 refine Aq (fun _=> ?_) (fun _=> ?_)
 ·refine At fun ai aj=> ?_
  refine iq (Aa ai) (Kt (E:=Zy) (l:=([ae,af]:List Int)) (len:=2) (e:=3) Bi Bi Bi rfl ⟨rfl,rfl⟩ aj rfl) ?_
  refine imp Ai ?_
  refine At fun d ak=> ?_
  refine imp (An (Z7 ak)) ?_
  refine imp Ai ?_
  refine imp (Qf (1) d (AV.ptr 356 0) (AV.ptr 0 0) _ _) ?_
  unfold M9
  refine iq (B7 Ae.E 90000 a) (Cp (b:=⟨[B7 Ae.E 90000 a],36⟩) (by first|rfl|(simp (disch:=first|decide|assumption) only [lk])) rfl) ?_
  refine iq (Az c) (Cp (b:=⟨[Az c],9⟩) (by first|rfl|(simp (disch:=first|decide|assumption) only [lk])) rfl) ?_
  refine imp Dh ?_
  refine iq (AV.agg [Az c,Aa (1),Aa d,Az (⟨#[]⟩:ByteArray)]) rfl ?_
  refine imp (Dv (show _=some ((Ik Ae.E 400074 ([(⟨c,1,d,(⟨#[]⟩:ByteArray)⟩:Ae)]:List Ae)),[(400074,some ⟨Bl Ae.E ([(⟨c,1,d,(⟨#[]⟩:ByteArray)⟩:Ae)]:List Ae),30⟩)]) from rfl)) ?_
  refine At fun am al=> ?_
  refine imp (Dv (show _=some ((B7 Ae.E 400075 (a++([(⟨c,1,d,(⟨#[]⟩:ByteArray)⟩:Ae)]:List Ae))),(Jy Ae.E 400075 90000 30 a ([(⟨c,1,d,(⟨#[]⟩:ByteArray)⟩:Ae)]:List Ae))) from (Jl (E:=Ae.E) (l':=a) (xs:=([(⟨c,1,d,(⟨#[]⟩:ByteArray)⟩:Ae)]:List Ae)) rfl rfl (Fw (E:=Ae.E) (ty:=30) rfl rfl (by first|rfl|(simp (disch:=first|decide|assumption) only [lk]))) xW rfl (fun hne=>Eq.trans (by first|rfl|(simp (disch:=first|decide|assumption) only [lk])) (E0 hne)) al))) ?_
  refine imp (Hb Bi Bi (Hy _ _) (cs:=[B7 Ae.E 90000 a]) (cs':=[B7 Ae.E 400075 (a++([(⟨c,1,d,(⟨#[]⟩:ByteArray)⟩:Ae)]:List Ae))]) (ty:=36) (by first|rfl|(simp (disch:=first|decide|assumption) only [lk])) rfl rfl) ?_
  refine imp (Ei rfl) ?_
  refine imp (Vz (v:=(AV.B4 [])) rfl) ?_
  refine imp Zv ?_
  exact fun hg=>hN1 _ (Option.some.inj hg).symm _ (Bc [(1,1),(209,209),(90000,400075),(356,356),(0,0)] rfl rfl rfl (oR (oR (oR (oR (oR (oR (oR (oR (oR (oR (oR (oR Bn)))))))))))) (Ao (Aw (cs:=[Az f,Aa g,Aa h,Aa i,Aa k,Aa o,Aa p]) (ty:=26) rfl (show Am _ 1=_ from (by first|rfl|(simp (disch:=first|decide|assumption) only [lk])))) (Ao (Aw (cs:=[Aa q,Aa s,Aa w,Aa x,Aa z,Aa aa]) (ty:=47) rfl (show Am _ 209=_ from (by first|rfl|(simp (disch:=first|decide|assumption) only [lk])))) (Ao (C4 (us:=[B7 Ae.E 400075 (a++([(⟨c,1,d,(⟨#[]⟩:ByteArray)⟩:Ae)]:List Ae))]) (ty:=36) (Co (Es (E:=Ae.E) (j:=90000) (id:=400075) (l':=(a++([(⟨c,1,d,(⟨#[]⟩:ByteArray)⟩:Ae)]:List Ae))) rfl rfl) De) (show Am _ 356=_ from (by first|rfl|(simp (disch:=first|decide|assumption) only [lk])))) (Ao (Aw (cs:=[Az c]) (ty:=9) rfl (show Am _ 0=_ from (by first|rfl|(simp (disch:=first|decide|assumption) only [lk])))) (Ao (Da (E:=Ae.E) (ty:=30) (l':=(a++([(⟨c,1,d,(⟨#[]⟩:ByteArray)⟩:Ae)]:List Ae))) rfl (show Am _ 400075=_ from (by first|rfl|(simp (disch:=first|decide|assumption) only [lk])))) Bb))))))
 ·exact fun hg=>hN0 _ (Option.some.inj hg).symm _ (Bc [(1,1),(209,209),(90000,90000),(356,356),(0,0)] rfl rfl rfl (oR (oR (oR (oR (oR (oR (oR (oR (oR (oR Bn)))))))))) (Ao (Aw (cs:=[Az f,Aa g,Aa h,Aa i,Aa k,Aa o,Aa p]) (ty:=26) rfl (show Am _ 1=_ from (by first|rfl|(simp (disch:=first|decide|assumption) only [lk])))) (Ao (Aw (cs:=[Aa q,Aa s,Aa w,Aa x,Aa z,Aa aa]) (ty:=47) rfl (show Am _ 209=_ from (by first|rfl|(simp (disch:=first|decide|assumption) only [lk])))) (Ao (C4 (us:=[B7 Ae.E 90000 a]) (ty:=36) (Co (Es (E:=Ae.E) (j:=90000) (id:=90000) (l':=a) rfl rfl) De) (show Am _ 356=_ from (by first|rfl|(simp (disch:=first|decide|assumption) only [lk])))) (Ao (Aw (cs:=[Az c]) (ty:=9) rfl (show Am _ 0=_ from (by first|rfl|(simp (disch:=first|decide|assumption) only [lk])))) (Ao (Da (E:=Ae.E) (ty:=30) (l':=a) rfl (show Am _ 90000=_ from (by first|rfl|(simp (disch:=first|decide|assumption) only [lk])))) Bb))))))
theorem fL (n:Nat) (c9 a b:Int) (Gx:Bool) (ab ad ae:Int) (c:ByteArray) (d f g i j l o p q v w aa:Int) {t:((Int×List Ae×ByteArray)⊕Qs)} (R:AV→Mem→Prop) (N0:St→Prop) (hR:∀r:Qs,t=(.inr r)→∀u m,C2 ((AV.B4 [As Ae.E r.1,Aa r.2])) u m→R u m) (hN0:∀y:Int×List Ae×ByteArray,t=(.inl y)→∀s':St,Cl KK 138 0 s' (Qk AV.B1 c9 a b Gx y.1 c d f g i j l o p q v w aa (B7 Ae.E 90000 y.2.1) y.2.2 [(90000,C7 Ae.E 30 y.2.1)])→N0 s') (k:Nat) (x:Int×List Ae×ByteArray) (hx:Bt (fun y:Int×List Ae×ByteArray=>Kn n c9 a b Gx ab ad ae c d f g i j l o p q v w aa y.1 y.2.1 y.2.2) k x=some t) {s:St} (hw:Cl KK 138 0 s (Ol AV.B1 c9 a b Gx ab (AV.agg [Aa ad,Aa ae]) x.1 c d f g i j l o p q v w aa (B7 Ae.E 90000 x.2.1) x.2.2 [(90000,C7 Ae.E 30 x.2.1)])):C6 pg KK 138 0 (.loop V0) s (Vj R N0):=
 yS R N0 (σ:=Nat×(Int×List Ae×ByteArray)) (fun z=>Bt (fun y:Int×List Ae×ByteArray=>Kn n c9 a b Gx ab ad ae c d f g i j l o p q v w aa y.1 y.2.1 y.2.2) z.1 z.2=some t) (fun z=>AV.B1) (fun z=>c9) (fun z=>a) (fun z=>b) (fun z=>Gx) (fun z=>ab) (fun z=>(AV.agg [Aa ad,Aa ae])) (fun z=>z.2.1) (fun z=>c) (fun z=>d) (fun z=>f) (fun z=>g) (fun z=>i) (fun z=>j) (fun z=>l) (fun z=>o) (fun z=>p) (fun z=>q) (fun z=>v) (fun z=>w) (fun z=>aa) (fun z=>(B7 Ae.E 90000 z.2.2.1)) (fun z=>z.2.2.2) (fun z=>[(90000,C7 Ae.E 30 z.2.2.1)]) (fun z=>z.1) (by
  rintro ⟨k,y⟩ h
  cases k with
  |zero=>exact (Cz h).elim
  |succ k=>
   obtain ⟨u,h1,h2,h3⟩:=Cv h
   exact iP n c9 a b Gx ab ad ae c d f g i j l o p q v w aa y.1 y.2.1 y.2.2 R N0 _ (fun r e=>hR r (h3 _ e).symm) (fun y' e=>hN0 y' (h3 _ e).symm) (fun y' e s' hw=>⟨(k,y'),h2 _ e,Nat.lt_succ_self k,hw⟩) h1) (k,x) hx hw
theorem gK (n:Nat) (c9 f ae:Int) (Gx:Bool) (ad af ag:Int) (g:ByteArray) (h i k o p q s w x z aa ab ah:Int) (a:List Ae) (c:ByteArray) {t:(Int×List Ae×ByteArray)⊕((Int×List Ae×ByteArray)⊕Qs)} (R:AV→Mem→Prop) (N0 N1:St→Prop) (hR:∀r:Qs,t=(.inr (.inr r))→∀u m,C2 ((AV.B4 [As Ae.E r.1,Aa r.2])) u m→R u m) (hN0:∀y:Int×List Ae×ByteArray,t=(.inr (.inl y))→∀s':St,Cl KK 138 0 s' (Qk AV.B1 c9 f ae Gx y.1 g h i k o p q s w x z aa ab (B7 Ae.E 90000 y.2.1) y.2.2 [(90000,C7 Ae.E 30 y.2.1)])→N0 s') (hN1:∀y:Int×List Ae×ByteArray,t=(.inl y)→∀s':St,Cl KK 138 0 s' (Oz AV.B1 c9 f ae Gx ad (AV.agg [Aa af,Aa ag]) y.1 g h i k o p q s w x z aa ab (B7 Ae.E 90000 y.2.1) y.2.2 [(90000,C7 Ae.E 30 y.2.1)])→N1 s'):Ko n c9 f ae Gx ad af ag g h i k o p q s w x z aa ab ah a c=some t→Wb AV.B1 c9 f ae Gx ad (AV.agg [Aa af,Aa ag]) ah g h i k o p q s w x z aa ab (B7 Ae.E 90000 a) c [(90000,C7 Ae.E 30 a)] R N0 N1:=by
 unfold Ko Wb
 refine Aq (fun _=> ?_) (fun _=> ?_)
 ·refine At fun d ai=> ?_
  refine iq (Aa d) (Kt (E:=Zy) (l:=([af,ag]:List Int)) (len:=2) (e:=3) Bi Bi Bi rfl ⟨rfl,rfl⟩ ai rfl) ?_
  refine imp Ai ?_
  refine Aq (fun _=> ?_) (fun _=> ?_)
  ·refine Aq (fun _=> ?_) (fun _=> ?_)
   ·refine imp (Qj (2) d (AV.ptr 356 0) (AV.ptr 0 0) _ _) ?_
    unfold Nh
    refine iq (B7 Ae.E 90000 a) (Cp (b:=⟨[B7 Ae.E 90000 a],36⟩) (by first|rfl|(simp (disch:=first|decide|assumption) only [lk])) rfl) ?_
    refine iq (Az c) (Cp (b:=⟨[Az c],9⟩) (by first|rfl|(simp (disch:=first|decide|assumption) only [lk])) rfl) ?_
    refine imp Dh ?_
    refine iq (AV.agg [Az c,Aa (2),Aa d,Az (⟨#[]⟩:ByteArray)]) rfl ?_
    refine imp (Dv (show _=some ((Ik Ae.E 300020 ([(⟨c,2,d,(⟨#[]⟩:ByteArray)⟩:Ae)]:List Ae)),[(300020,some ⟨Bl Ae.E ([(⟨c,2,d,(⟨#[]⟩:ByteArray)⟩:Ae)]:List Ae),30⟩)]) from rfl)) ?_
    refine At fun ak aj=> ?_
    refine imp (Dv (show _=some ((B7 Ae.E 300021 (a++([(⟨c,2,d,(⟨#[]⟩:ByteArray)⟩:Ae)]:List Ae))),(Jy Ae.E 300021 90000 30 a ([(⟨c,2,d,(⟨#[]⟩:ByteArray)⟩:Ae)]:List Ae))) from (Jl (E:=Ae.E) (l':=a) (xs:=([(⟨c,2,d,(⟨#[]⟩:ByteArray)⟩:Ae)]:List Ae)) rfl rfl (Fw (E:=Ae.E) (ty:=30) rfl rfl (by first|rfl|(simp (disch:=first|decide|assumption) only [lk]))) xW rfl (fun hne=>Eq.trans (by first|rfl|(simp (disch:=first|decide|assumption) only [lk])) (E0 hne)) aj))) ?_
    refine imp (Hb Bi Bi (Hy _ _) (cs:=[B7 Ae.E 90000 a]) (cs':=[B7 Ae.E 300021 (a++([(⟨c,2,d,(⟨#[]⟩:ByteArray)⟩:Ae)]:List Ae))]) (ty:=36) (by first|rfl|(simp (disch:=first|decide|assumption) only [lk])) rfl rfl) ?_
    refine imp (Ei rfl) ?_
    refine imp (Vz (v:=(AV.B4 [])) rfl) ?_
    refine imp Zv ?_
    exact fun hg=>hN1 _ (Option.some.inj hg).symm _ (Bc [(1,1),(209,209),(90000,300021),(356,356),(0,0)] rfl rfl rfl (oR (oR (oR (oR (oR (oR (oR (oR (oR (oR (oR (oR Bn)))))))))))) (Ao (Aw (cs:=[Az g,Aa h,Aa i,Aa k,Aa o,Aa p,Aa q]) (ty:=26) rfl (show Am _ 1=_ from (by first|rfl|(simp (disch:=first|decide|assumption) only [lk])))) (Ao (Aw (cs:=[Aa s,Aa w,Aa x,Aa z,Aa aa,Aa ab]) (ty:=47) rfl (show Am _ 209=_ from (by first|rfl|(simp (disch:=first|decide|assumption) only [lk])))) (Ao (C4 (us:=[B7 Ae.E 300021 (a++([(⟨c,2,d,(⟨#[]⟩:ByteArray)⟩:Ae)]:List Ae))]) (ty:=36) (Co (Es (E:=Ae.E) (j:=90000) (id:=300021) (l':=(a++([(⟨c,2,d,(⟨#[]⟩:ByteArray)⟩:Ae)]:List Ae))) rfl rfl) De) (show Am _ 356=_ from (by first|rfl|(simp (disch:=first|decide|assumption) only [lk])))) (Ao (Aw (cs:=[Az c]) (ty:=9) rfl (show Am _ 0=_ from (by first|rfl|(simp (disch:=first|decide|assumption) only [lk])))) (Ao (Da (E:=Ae.E) (ty:=30) (l':=(a++([(⟨c,2,d,(⟨#[]⟩:ByteArray)⟩:Ae)]:List Ae))) rfl (show Am _ 300021=_ from (by first|rfl|(simp (disch:=first|decide|assumption) only [lk])))) Bb))))))
   ·exact fun hg=>hN1 _ (Option.some.inj hg).symm _ (Bc [(1,1),(209,209),(90000,90000),(356,356),(0,0)] rfl rfl rfl (oR (oR (oR (oR (oR (oR (oR (oR (oR (oR (oR (oR Bn)))))))))))) (Ao (Aw (cs:=[Az g,Aa h,Aa i,Aa k,Aa o,Aa p,Aa q]) (ty:=26) rfl (show Am _ 1=_ from (by first|rfl|(simp (disch:=first|decide|assumption) only [lk])))) (Ao (Aw (cs:=[Aa s,Aa w,Aa x,Aa z,Aa aa,Aa ab]) (ty:=47) rfl (show Am _ 209=_ from (by first|rfl|(simp (disch:=first|decide|assumption) only [lk])))) (Ao (C4 (us:=[B7 Ae.E 90000 a]) (ty:=36) (Co (Es (E:=Ae.E) (j:=90000) (id:=90000) (l':=a) rfl rfl) De) (show Am _ 356=_ from (by first|rfl|(simp (disch:=first|decide|assumption) only [lk])))) (Ao (Aw (cs:=[Az c]) (ty:=9) rfl (show Am _ 0=_ from (by first|rfl|(simp (disch:=first|decide|assumption) only [lk])))) (Ao (Da (E:=Ae.E) (ty:=30) (l':=a) rfl (show Am _ 90000=_ from (by first|rfl|(simp (disch:=first|decide|assumption) only [lk])))) Bb))))))
  ·exact fun hg=>hN1 _ (Option.some.inj hg).symm _ (Bc [(1,1),(209,209),(90000,90000),(356,356),(0,0)] rfl rfl rfl (oR (oR (oR (oR (oR (oR (oR (oR (oR (oR (oR (oR Bn)))))))))))) (Ao (Aw (cs:=[Az g,Aa h,Aa i,Aa k,Aa o,Aa p,Aa q]) (ty:=26) rfl (show Am _ 1=_ from (by first|rfl|(simp (disch:=first|decide|assumption) only [lk])))) (Ao (Aw (cs:=[Aa s,Aa w,Aa x,Aa z,Aa aa,Aa ab]) (ty:=47) rfl (show Am _ 209=_ from (by first|rfl|(simp (disch:=first|decide|assumption) only [lk])))) (Ao (C4 (us:=[B7 Ae.E 90000 a]) (ty:=36) (Co (Es (E:=Ae.E) (j:=90000) (id:=90000) (l':=a) rfl rfl) De) (show Am _ 356=_ from (by first|rfl|(simp (disch:=first|decide|assumption) only [lk])))) (Ao (Aw (cs:=[Az c]) (ty:=9) rfl (show Am _ 0=_ from (by first|rfl|(simp (disch:=first|decide|assumption) only [lk])))) (Ao (Da (E:=Ae.E) (ty:=30) (l':=a) rfl (show Am _ 90000=_ from (by first|rfl|(simp (disch:=first|decide|assumption) only [lk])))) Bb))))))
 ·refine iq (AV.agg [Aa (IntKind.wrap .i64 (f+(IntKind.wrap .i64 ((171)*ad)))),Aa (IntKind.wrap .i64 (f-(IntKind.wrap .i64 ((171)*ad))))]) Bi ?_
  refine R7 fun t0 e0=> ?_
  exact fun hg=>fL n c9 f ae Gx ad (IntKind.wrap .i64 (f+(IntKind.wrap .i64 ((171)*ad)))) (IntKind.wrap .i64 (f-(IntKind.wrap .i64 ((171)*ad)))) g h i k o p q s w x z aa ab R N0 (fun r e=>hR r (e0.trans (congrArg Sum.inr e))) (fun y e=>hN0 y (e0.trans (congrArg Sum.inr e))) n _ hg (Bc [(1,1),(209,209),(90000,90000),(356,356),(0,0)] rfl rfl rfl (oR (oR (oR (oR (oR (oR (oR (oR (oR (oR (oR (oR Bn)))))))))))) (Ao (Aw (cs:=[Az g,Aa h,Aa i,Aa k,Aa o,Aa p,Aa q]) (ty:=26) rfl (show Am _ 1=_ from (by first|rfl|(simp (disch:=first|decide|assumption) only [lk])))) (Ao (Aw (cs:=[Aa s,Aa w,Aa x,Aa z,Aa aa,Aa ab]) (ty:=47) rfl (show Am _ 209=_ from (by first|rfl|(simp (disch:=first|decide|assumption) only [lk])))) (Ao (C4 (us:=[B7 Ae.E 90000 a]) (ty:=36) (Co (Es (E:=Ae.E) (j:=90000) (id:=90000) (l':=a) rfl rfl) De) (show Am _ 356=_ from (by first|rfl|(simp (disch:=first|decide|assumption) only [lk])))) (Ao (Aw (cs:=[Az c]) (ty:=9) rfl (show Am _ 0=_ from (by first|rfl|(simp (disch:=first|decide|assumption) only [lk])))) (Ao (Da (E:=Ae.E) (ty:=30) (l':=a) rfl (show Am _ 90000=_ from (by first|rfl|(simp (disch:=first|decide|assumption) only [lk])))) Bb))))))
theorem fZ (n:Nat) (c9 a b:Int) (Gx:Bool) (ab ad ae:Int) (c:ByteArray) (d f g i j l o p q v w aa:Int) {t:((Int×List Ae×ByteArray)⊕Qs)} (R:AV→Mem→Prop) (N0:St→Prop) (hR:∀r:Qs,t=(.inr r)→∀u m,C2 ((AV.B4 [As Ae.E r.1,Aa r.2])) u m→R u m) (hN0:∀y:Int×List Ae×ByteArray,t=(.inl y)→∀s':St,Cl KK 138 0 s' (Qk AV.B1 c9 a b Gx y.1 c d f g i j l o p q v w aa (B7 Ae.E 90000 y.2.1) y.2.2 [(90000,C7 Ae.E 30 y.2.1)])→N0 s') (k:Nat) (x:Int×List Ae×ByteArray) (hx:Bt (fun y:Int×List Ae×ByteArray=>Ko n c9 a b Gx ab ad ae c d f g i j l o p q v w aa y.1 y.2.1 y.2.2) k x=some t) {s:St} (hw:Cl KK 138 0 s (Oz AV.B1 c9 a b Gx ab (AV.agg [Aa ad,Aa ae]) x.1 c d f g i j l o p q v w aa (B7 Ae.E 90000 x.2.1) x.2.2 [(90000,C7 Ae.E 30 x.2.1)])):C6 pg KK 138 0 (.loop Vr) s (V7 R N0):=
 yV R N0 (σ:=Nat×(Int×List Ae×ByteArray)) (fun z=>Bt (fun y:Int×List Ae×ByteArray=>Ko n c9 a b Gx ab ad ae c d f g i j l o p q v w aa y.1 y.2.1 y.2.2) z.1 z.2=some t) (fun z=>AV.B1) (fun z=>c9) (fun z=>a) (fun z=>b) (fun z=>Gx) (fun z=>ab) (fun z=>(AV.agg [Aa ad,Aa ae])) (fun z=>z.2.1) (fun z=>c) (fun z=>d) (fun z=>f) (fun z=>g) (fun z=>i) (fun z=>j) (fun z=>l) (fun z=>o) (fun z=>p) (fun z=>q) (fun z=>v) (fun z=>w) (fun z=>aa) (fun z=>(B7 Ae.E 90000 z.2.2.1)) (fun z=>z.2.2.2) (fun z=>[(90000,C7 Ae.E 30 z.2.2.1)]) (fun z=>z.1) (by
  rintro ⟨k,y⟩ h
  cases k with
  |zero=>exact (Cz h).elim
  |succ k=>
   obtain ⟨u,h1,h2,h3⟩:=Cv h
   exact gK n c9 a b Gx ab ad ae c d f g i j l o p q v w aa y.1 y.2.1 y.2.2 R N0 _ (fun r e=>hR r (h3 _ e).symm) (fun y' e=>hN0 y' (h3 _ e).symm) (fun y' e s' hw=>⟨(k,y'),h2 _ e,Nat.lt_succ_self k,hw⟩) h1) (k,x) hx hw
theorem fF (n:Nat) (c9 ae ab:Int) (Gx:Bool) (ad af ag:Int) (f:ByteArray) (g h i k o p q s w x z aa ah:Int) (a:List Ae) (c:ByteArray) {t:(Int×List Ae×ByteArray)⊕((Int×List Ae×ByteArray)⊕Qs)} (R:AV→Mem→Prop) (N0 N1:St→Prop) (hR:∀r:Qs,t=(.inr (.inr r))→∀u m,C2 ((AV.B4 [As Ae.E r.1,Aa r.2])) u m→R u m) (hN0:∀y:Int×List Ae×ByteArray,t=(.inr (.inl y))→∀s':St,Cl KK 138 0 s' (Qk AV.B1 c9 ae ab Gx y.1 f g h i k o p q s w x z aa (B7 Ae.E 90000 y.2.1) y.2.2 [(90000,C7 Ae.E 30 y.2.1)])→N0 s') (hN1:∀y:Int×List Ae×ByteArray,t=(.inl y)→∀s':St,Cl KK 138 0 s' (Ox AV.B1 c9 ae ab Gx ad (AV.agg [Aa af,Aa ag]) y.1 f g h i k o p q s w x z aa (B7 Ae.E 90000 y.2.1) y.2.2 [(90000,C7 Ae.E 30 y.2.1)])→N1 s'):Jw n c9 ae ab Gx ad af ag f g h i k o p q s w x z aa ah a c=some t→Vg AV.B1 c9 ae ab Gx ad (AV.agg [Aa af,Aa ag]) ah f g h i k o p q s w x z aa (B7 Ae.E 90000 a) c [(90000,C7 Ae.E 30 a)] R N0 N1:=by
 unfold Jw Vg
 refine Aq (fun _=> ?_) (fun _=> ?_)
 ·refine At fun d ai=> ?_
  refine iq (Aa d) (Kt (E:=Zy) (l:=([af,ag]:List Int)) (len:=2) (e:=3) Bi Bi Bi rfl ⟨rfl,rfl⟩ ai rfl) ?_
  refine imp Ai ?_
  refine Aq (fun _=> ?_) (fun _=> ?_)
  ·refine Aq (fun _=> ?_) (fun _=> ?_)
   ·refine imp (Qi (0) d (AV.ptr 356 0) (AV.ptr 0 0) _ _) ?_
    unfold M4
    refine iq (B7 Ae.E 90000 a) (Cp (b:=⟨[B7 Ae.E 90000 a],36⟩) (by first|rfl|(simp (disch:=first|decide|assumption) only [lk])) rfl) ?_
    refine iq (Az c) (Cp (b:=⟨[Az c],9⟩) (by first|rfl|(simp (disch:=first|decide|assumption) only [lk])) rfl) ?_
    refine imp Dh ?_
    refine iq (AV.agg [Az c,Aa (0),Aa d,Az (⟨#[]⟩:ByteArray)]) rfl ?_
    refine imp (Dv (show _=some ((Ik Ae.E 200018 ([(⟨c,0,d,(⟨#[]⟩:ByteArray)⟩:Ae)]:List Ae)),[(200018,some ⟨Bl Ae.E ([(⟨c,0,d,(⟨#[]⟩:ByteArray)⟩:Ae)]:List Ae),30⟩)]) from rfl)) ?_
    refine At fun ak aj=> ?_
    refine imp (Dv (show _=some ((B7 Ae.E 200019 (a++([(⟨c,0,d,(⟨#[]⟩:ByteArray)⟩:Ae)]:List Ae))),(Jy Ae.E 200019 90000 30 a ([(⟨c,0,d,(⟨#[]⟩:ByteArray)⟩:Ae)]:List Ae))) from (Jl (E:=Ae.E) (l':=a) (xs:=([(⟨c,0,d,(⟨#[]⟩:ByteArray)⟩:Ae)]:List Ae)) rfl rfl (Fw (E:=Ae.E) (ty:=30) rfl rfl (by first|rfl|(simp (disch:=first|decide|assumption) only [lk]))) xW rfl (fun hne=>Eq.trans (by first|rfl|(simp (disch:=first|decide|assumption) only [lk])) (E0 hne)) aj))) ?_
    refine imp (Hb Bi Bi (Hy _ _) (cs:=[B7 Ae.E 90000 a]) (cs':=[B7 Ae.E 200019 (a++([(⟨c,0,d,(⟨#[]⟩:ByteArray)⟩:Ae)]:List Ae))]) (ty:=36) (by first|rfl|(simp (disch:=first|decide|assumption) only [lk])) rfl rfl) ?_
    refine imp (Ei rfl) ?_
    refine imp (Vz (v:=(AV.B4 [])) rfl) ?_
    refine imp Zv ?_
    exact fun hg=>hN1 _ (Option.some.inj hg).symm _ (Bc [(1,1),(209,209),(90000,200019),(356,356),(0,0)] rfl rfl rfl (oR (oR (oR (oR (oR (oR (oR (oR (oR (oR (oR (oR Bn)))))))))))) (Ao (Aw (cs:=[Az f,Aa g,Aa h,Aa i,Aa k,Aa o,Aa p]) (ty:=26) rfl (show Am _ 1=_ from (by first|rfl|(simp (disch:=first|decide|assumption) only [lk])))) (Ao (Aw (cs:=[Aa q,Aa s,Aa w,Aa x,Aa z,Aa aa]) (ty:=47) rfl (show Am _ 209=_ from (by first|rfl|(simp (disch:=first|decide|assumption) only [lk])))) (Ao (C4 (us:=[B7 Ae.E 200019 (a++([(⟨c,0,d,(⟨#[]⟩:ByteArray)⟩:Ae)]:List Ae))]) (ty:=36) (Co (Es (E:=Ae.E) (j:=90000) (id:=200019) (l':=(a++([(⟨c,0,d,(⟨#[]⟩:ByteArray)⟩:Ae)]:List Ae))) rfl rfl) De) (show Am _ 356=_ from (by first|rfl|(simp (disch:=first|decide|assumption) only [lk])))) (Ao (Aw (cs:=[Az c]) (ty:=9) rfl (show Am _ 0=_ from (by first|rfl|(simp (disch:=first|decide|assumption) only [lk])))) (Ao (Da (E:=Ae.E) (ty:=30) (l':=(a++([(⟨c,0,d,(⟨#[]⟩:ByteArray)⟩:Ae)]:List Ae))) rfl (show Am _ 200019=_ from (by first|rfl|(simp (disch:=first|decide|assumption) only [lk])))) Bb))))))
   ·exact fun hg=>hN1 _ (Option.some.inj hg).symm _ (Bc [(1,1),(209,209),(90000,90000),(356,356),(0,0)] rfl rfl rfl (oR (oR (oR (oR (oR (oR (oR (oR (oR (oR (oR (oR Bn)))))))))))) (Ao (Aw (cs:=[Az f,Aa g,Aa h,Aa i,Aa k,Aa o,Aa p]) (ty:=26) rfl (show Am _ 1=_ from (by first|rfl|(simp (disch:=first|decide|assumption) only [lk])))) (Ao (Aw (cs:=[Aa q,Aa s,Aa w,Aa x,Aa z,Aa aa]) (ty:=47) rfl (show Am _ 209=_ from (by first|rfl|(simp (disch:=first|decide|assumption) only [lk])))) (Ao (C4 (us:=[B7 Ae.E 90000 a]) (ty:=36) (Co (Es (E:=Ae.E) (j:=90000) (id:=90000) (l':=a) rfl rfl) De) (show Am _ 356=_ from (by first|rfl|(simp (disch:=first|decide|assumption) only [lk])))) (Ao (Aw (cs:=[Az c]) (ty:=9) rfl (show Am _ 0=_ from (by first|rfl|(simp (disch:=first|decide|assumption) only [lk])))) (Ao (Da (E:=Ae.E) (ty:=30) (l':=a) rfl (show Am _ 90000=_ from (by first|rfl|(simp (disch:=first|decide|assumption) only [lk])))) Bb))))))
  ·exact fun hg=>hN1 _ (Option.some.inj hg).symm _ (Bc [(1,1),(209,209),(90000,90000),(356,356),(0,0)] rfl rfl rfl (oR (oR (oR (oR (oR (oR (oR (oR (oR (oR (oR (oR Bn)))))))))))) (Ao (Aw (cs:=[Az f,Aa g,Aa h,Aa i,Aa k,Aa o,Aa p]) (ty:=26) rfl (show Am _ 1=_ from (by first|rfl|(simp (disch:=first|decide|assumption) only [lk])))) (Ao (Aw (cs:=[Aa q,Aa s,Aa w,Aa x,Aa z,Aa aa]) (ty:=47) rfl (show Am _ 209=_ from (by first|rfl|(simp (disch:=first|decide|assumption) only [lk])))) (Ao (C4 (us:=[B7 Ae.E 90000 a]) (ty:=36) (Co (Es (E:=Ae.E) (j:=90000) (id:=90000) (l':=a) rfl rfl) De) (show Am _ 356=_ from (by first|rfl|(simp (disch:=first|decide|assumption) only [lk])))) (Ao (Aw (cs:=[Az c]) (ty:=9) rfl (show Am _ 0=_ from (by first|rfl|(simp (disch:=first|decide|assumption) only [lk])))) (Ao (Da (E:=Ae.E) (ty:=30) (l':=a) rfl (show Am _ 90000=_ from (by first|rfl|(simp (disch:=first|decide|assumption) only [lk])))) Bb))))))
 ·refine Aq (fun _=> ?_) (fun _=> ?_)
  ·exact fun hg=>hN0 _ (Option.some.inj hg).symm _ (Bc [(1,1),(209,209),(90000,90000),(356,356),(0,0)] rfl rfl rfl (oR (oR (oR (oR (oR (oR (oR (oR (oR (oR Bn)))))))))) (Ao (Aw (cs:=[Az f,Aa g,Aa h,Aa i,Aa k,Aa o,Aa p]) (ty:=26) rfl (show Am _ 1=_ from (by first|rfl|(simp (disch:=first|decide|assumption) only [lk])))) (Ao (Aw (cs:=[Aa q,Aa s,Aa w,Aa x,Aa z,Aa aa]) (ty:=47) rfl (show Am _ 209=_ from (by first|rfl|(simp (disch:=first|decide|assumption) only [lk])))) (Ao (C4 (us:=[B7 Ae.E 90000 a]) (ty:=36) (Co (Es (E:=Ae.E) (j:=90000) (id:=90000) (l':=a) rfl rfl) De) (show Am _ 356=_ from (by first|rfl|(simp (disch:=first|decide|assumption) only [lk])))) (Ao (Aw (cs:=[Az c]) (ty:=9) rfl (show Am _ 0=_ from (by first|rfl|(simp (disch:=first|decide|assumption) only [lk])))) (Ao (Da (E:=Ae.E) (ty:=30) (l':=a) rfl (show Am _ 90000=_ from (by first|rfl|(simp (disch:=first|decide|assumption) only [lk])))) Bb))))))
  ·refine iq (AV.agg [Aa (IntKind.wrap .i64 (ab+(IntKind.wrap .i64 ((15)*ad)))),Aa (IntKind.wrap .i64 (ab-(IntKind.wrap .i64 ((15)*ad))))]) Bi ?_
   refine R7 fun t0 e0=> ?_
   exact fun hg=>fZ n c9 ae ab Gx ad (IntKind.wrap .i64 (ab+(IntKind.wrap .i64 ((15)*ad)))) (IntKind.wrap .i64 (ab-(IntKind.wrap .i64 ((15)*ad)))) f g h i k o p q s w x z aa R N0 (fun r e=>hR r (e0.trans (congrArg Sum.inr e))) (fun y e=>hN0 y (e0.trans (congrArg Sum.inr e))) n _ hg (Bc [(1,1),(209,209),(90000,90000),(356,356),(0,0)] rfl rfl rfl (oR (oR (oR (oR (oR (oR (oR (oR (oR (oR (oR (oR Bn)))))))))))) (Ao (Aw (cs:=[Az f,Aa g,Aa h,Aa i,Aa k,Aa o,Aa p]) (ty:=26) rfl (show Am _ 1=_ from (by first|rfl|(simp (disch:=first|decide|assumption) only [lk])))) (Ao (Aw (cs:=[Aa q,Aa s,Aa w,Aa x,Aa z,Aa aa]) (ty:=47) rfl (show Am _ 209=_ from (by first|rfl|(simp (disch:=first|decide|assumption) only [lk])))) (Ao (C4 (us:=[B7 Ae.E 90000 a]) (ty:=36) (Co (Es (E:=Ae.E) (j:=90000) (id:=90000) (l':=a) rfl rfl) De) (show Am _ 356=_ from (by first|rfl|(simp (disch:=first|decide|assumption) only [lk])))) (Ao (Aw (cs:=[Az c]) (ty:=9) rfl (show Am _ 0=_ from (by first|rfl|(simp (disch:=first|decide|assumption) only [lk])))) (Ao (Da (E:=Ae.E) (ty:=30) (l':=a) rfl (show Am _ 90000=_ from (by first|rfl|(simp (disch:=first|decide|assumption) only [lk])))) Bb))))))
theorem gC (n:Nat) (c9 a b:Int) (Gx:Bool) (ab ad ae:Int) (c:ByteArray) (d f g i j l o p q v w aa:Int) {t:((Int×List Ae×ByteArray)⊕Qs)} (R:AV→Mem→Prop) (N0:St→Prop) (hR:∀r:Qs,t=(.inr r)→∀u m,C2 ((AV.B4 [As Ae.E r.1,Aa r.2])) u m→R u m) (hN0:∀y:Int×List Ae×ByteArray,t=(.inl y)→∀s':St,Cl KK 138 0 s' (Qk AV.B1 c9 a b Gx y.1 c d f g i j l o p q v w aa (B7 Ae.E 90000 y.2.1) y.2.2 [(90000,C7 Ae.E 30 y.2.1)])→N0 s') (k:Nat) (x:Int×List Ae×ByteArray) (hx:Bt (fun y:Int×List Ae×ByteArray=>Jw n c9 a b Gx ab ad ae c d f g i j l o p q v w aa y.1 y.2.1 y.2.2) k x=some t) {s:St} (hw:Cl KK 138 0 s (Ox AV.B1 c9 a b Gx ab (AV.agg [Aa ad,Aa ae]) x.1 c d f g i j l o p q v w aa (B7 Ae.E 90000 x.2.1) x.2.2 [(90000,C7 Ae.E 30 x.2.1)])):C6 pg KK 138 0 (.loop Wk) s (We R N0):=
 yD R N0 (σ:=Nat×(Int×List Ae×ByteArray)) (fun z=>Bt (fun y:Int×List Ae×ByteArray=>Jw n c9 a b Gx ab ad ae c d f g i j l o p q v w aa y.1 y.2.1 y.2.2) z.1 z.2=some t) (fun z=>AV.B1) (fun z=>c9) (fun z=>a) (fun z=>b) (fun z=>Gx) (fun z=>ab) (fun z=>(AV.agg [Aa ad,Aa ae])) (fun z=>z.2.1) (fun z=>c) (fun z=>d) (fun z=>f) (fun z=>g) (fun z=>i) (fun z=>j) (fun z=>l) (fun z=>o) (fun z=>p) (fun z=>q) (fun z=>v) (fun z=>w) (fun z=>aa) (fun z=>(B7 Ae.E 90000 z.2.2.1)) (fun z=>z.2.2.2) (fun z=>[(90000,C7 Ae.E 30 z.2.2.1)]) (fun z=>z.1) (by
  rintro ⟨k,y⟩ h
  cases k with
  |zero=>exact (Cz h).elim
  |succ k=>
   obtain ⟨u,h1,h2,h3⟩:=Cv h
   exact fF n c9 a b Gx ab ad ae c d f g i j l o p q v w aa y.1 y.2.1 y.2.2 R N0 _ (fun r e=>hR r (h3 _ e).symm) (fun y' e=>hN0 y' (h3 _ e).symm) (fun y' e s' hw=>⟨(k,y'),h2 _ e,Nat.lt_succ_self k,hw⟩) h1) (k,x) hx hw
theorem uT (n:Nat) (c9 v w:Int) (Gx:Bool) (d:ByteArray) (e f g h i k l o p a q s b:Int) (c:List Ae) (x:ByteArray) {t:(Int×List Ae×ByteArray)⊕Qs} (R:AV→Mem→Prop) (N0:St→Prop) (hR:∀r:Qs,t=(.inr r)→∀u m,C2 ((AV.B4 [As Ae.E r.1,Aa r.2])) u m→R u m) (hN0:∀y:Int×List Ae×ByteArray,t=(.inl y)→∀s':St,Cl KK 138 0 s' (Qk AV.B1 c9 v w Gx y.1 d e f g h i k l o p a q s (B7 Ae.E 90000 y.2.1) y.2.2 [(90000,C7 Ae.E 30 y.2.1)])→N0 s'):Wd n c9 v w Gx d e f g h i k l o p a q s b c x=some t→qD AV.B1 c9 v w Gx b d e f g h i k l o p a q s (B7 Ae.E 90000 c) x [(90000,C7 Ae.E 30 c)] R N0:=by
 unfold Wd qD
 refine Aq (fun _=> ?_) (fun _=> ?_)
 ·refine iq (AV.agg [Aa (IntKind.wrap .i64 (a+(IntKind.wrap .i64 ((1000)*b)))),Aa (IntKind.wrap .i64 (a-(IntKind.wrap .i64 ((1000)*b))))]) Bi ?_
  exact fun hg=>gC n c9 v w Gx b (IntKind.wrap .i64 (a+(IntKind.wrap .i64 ((1000)*b)))) (IntKind.wrap .i64 (a-(IntKind.wrap .i64 ((1000)*b)))) d e f g h i k l o p a q s R N0 hR hN0 n _ hg (Bc [(1,1),(209,209),(90000,90000),(356,356),(0,0)] rfl rfl rfl (oR (oR (oR (oR (oR (oR (oR (oR (oR (oR (oR (oR Bn)))))))))))) (Ao (Aw (cs:=[Az d,Aa e,Aa f,Aa g,Aa h,Aa i,Aa k]) (ty:=26) rfl (show Am _ 1=_ from (by first|rfl|(simp (disch:=first|decide|assumption) only [lk])))) (Ao (Aw (cs:=[Aa l,Aa o,Aa p,Aa a,Aa q,Aa s]) (ty:=47) rfl (show Am _ 209=_ from (by first|rfl|(simp (disch:=first|decide|assumption) only [lk])))) (Ao (C4 (us:=[B7 Ae.E 90000 c]) (ty:=36) (Co (Es (E:=Ae.E) (j:=90000) (id:=90000) (l':=c) rfl rfl) De) (show Am _ 356=_ from (by first|rfl|(simp (disch:=first|decide|assumption) only [lk])))) (Ao (Aw (cs:=[Az x]) (ty:=9) rfl (show Am _ 0=_ from (by first|rfl|(simp (disch:=first|decide|assumption) only [lk])))) (Ao (Da (E:=Ae.E) (ty:=30) (l':=c) rfl (show Am _ 90000=_ from (by first|rfl|(simp (disch:=first|decide|assumption) only [lk])))) Bb))))))
 ·exact fun hg=>Dp rfl (hR _ (Option.some.inj hg).symm) (Ck (Wv (E:=Ae.E) (ty:=30) (l':=c) _ rfl (by first|rfl|(simp (disch:=first|decide|assumption) only [lk]))) (fS Bx))
theorem uQ (n:Nat) (c9 a b:Int) (Gx:Bool) (c:ByteArray) (d f g i j l o p q v w aa:Int) {t:Qs} (R:AV→Mem→Prop) (hR:∀r:Qs,t=r→∀u m,C2 ((AV.B4 [As Ae.E r.1,Aa r.2])) u m→R u m) (k:Nat) (x:Int×List Ae×ByteArray) (hx:Bt (fun y:Int×List Ae×ByteArray=>Wd n c9 a b Gx c d f g i j l o p q v w aa y.1 y.2.1 y.2.2) k x=some t) {s:St} (hw:Cl KK 138 0 s (Qk AV.B1 c9 a b Gx x.1 c d f g i j l o p q v w aa (B7 Ae.E 90000 x.2.1) x.2.2 [(90000,C7 Ae.E 30 x.2.1)])):C6 pg KK 138 0 (.loop S2) s (sB R):=
 Ago R (σ:=Nat×(Int×List Ae×ByteArray)) (fun z=>Bt (fun y:Int×List Ae×ByteArray=>Wd n c9 a b Gx c d f g i j l o p q v w aa y.1 y.2.1 y.2.2) z.1 z.2=some t) (fun z=>AV.B1) (fun z=>c9) (fun z=>a) (fun z=>b) (fun z=>Gx) (fun z=>z.2.1) (fun z=>c) (fun z=>d) (fun z=>f) (fun z=>g) (fun z=>i) (fun z=>j) (fun z=>l) (fun z=>o) (fun z=>p) (fun z=>q) (fun z=>v) (fun z=>w) (fun z=>aa) (fun z=>(B7 Ae.E 90000 z.2.2.1)) (fun z=>z.2.2.2) (fun z=>[(90000,C7 Ae.E 30 z.2.2.1)]) (fun z=>z.1) (by
  rintro ⟨k,y⟩ h
  cases k with
  |zero=>exact (Cz h).elim
  |succ k=>
   obtain ⟨u,h1,h2,h3⟩:=Cv h
   exact uT n c9 a b Gx c d f g i j l o p q v w aa y.1 y.2.1 y.2.2 R _ (fun r e=>hR r (h3 _ e).symm) (fun y' e s' hw=>⟨(k,y'),h2 _ e,Nat.lt_succ_self k,hw⟩) h1) (k,x) hx hw
theorem Aex (n:Nat) (c:ByteArray) (e:List Ab) (f:Int) (a:Dm) {t:Qs} (R:AV→Mem→Prop) (hR:∀r:Qs,t=r→∀u m,C2 ((AV.B4 [As Ae.E r.1,Aa r.2])) u m→R u m):g7 n c e f a=some t→F7 c (As Ab.E e) f a.Name a.D9 a.B6 a.C1 a.Ca a.Dy a.Dz R:=by
 unfold g7 F7
 refine At fun o g=> ?_
 refine imp (An (hG g)) ?_
 refine imp Ai ?_
 refine Aq (fun _=> ?_) (fun _=> ?_)
 ·exact fun hg=>Dp rfl (hR _ (Option.some.inj hg).symm) (Ck (Fu (E:=Ae.E) _) (fS Bx))
 ·refine At fun p h=> ?_
  refine imp (An (zV h)) ?_
  refine imp Ai ?_
  refine Aq (fun _=> ?_) (fun _=> ?_)
  ·exact fun hg=>Dp rfl (hR _ (Option.some.inj hg).symm) (Ck (Fu (E:=Ae.E) _) (fS Bx))
  ·refine At fun b i=> ?_
   refine imp (An (mG i)) ?_
   refine imp Dk ?_
   refine imp Fp ?_
   iterate 7 refine imp Ai ?_
   refine Aq (fun _=> ?_) (fun _=> ?_)
   ·exact fun hg=>Dp rfl (hR _ (Option.some.inj hg).symm) (Ck (Fu (E:=Ae.E) _) (fS Bx))
   ·refine iq (AV.agg [Az c,Aa (0),Aa (0),Az (⟨#[]⟩:ByteArray)]) rfl ?_
    refine At fun q k=> ?_
    refine imp (An (Ac8 k)) ?_
    refine imp Ai ?_
    refine Aq (fun _=> ?_) (fun _=> ?_)
    ·exact fun hg=>Dp rfl (hR _ (Option.some.inj hg).symm) (Ck (Fu (E:=Ae.E) _) (fS Bx))
    ·refine At fun d l=> ?_
     refine imp (An (Agm l)) ?_
     refine imp aF ?_
     iterate 2 refine imp Ai ?_
     refine imp Eh ?_
     exact fun hg=>uQ n (0) d.1 d.2.1 d.2.2 a.Name a.D9 a.B6 a.C1 a.Ca a.Dy a.Dz b.1.Ac b.1.Ak b.1.Aj b.1.Ad b.1.Ay b.1.Br R hR n _ hg (Bc [(1,1),(209,209),(90000,89500),(356,356),(0,0)] rfl rfl rfl (oR (oR (oR (oR (oR (oR (oR (oR (oR (oR Bn)))))))))) (Ao (Aw (cs:=[Az a.Name,Aa a.D9,Aa a.B6,Aa a.C1,Aa a.Ca,Aa a.Dy,Aa a.Dz]) (ty:=26) rfl (show Am _ 1=_ from (by first|rfl|(simp (disch:=first|decide|assumption) only [lk])))) (Ao (Aw (cs:=[Aa b.1.Ac,Aa b.1.Ak,Aa b.1.Aj,Aa b.1.Ad,Aa b.1.Ay,Aa b.1.Br]) (ty:=47) rfl (show Am _ 209=_ from (by first|rfl|(simp (disch:=first|decide|assumption) only [lk])))) (Ao (C4 (us:=[AV.B1]) (ty:=36) (Co (Kz (E:=Ae.E) (j:=90000)) De) (show Am _ 356=_ from (by first|rfl|(simp (disch:=first|decide|assumption) only [lk])))) (Ao (Aw (cs:=[Az c]) (ty:=9) rfl (show Am _ 0=_ from (by first|rfl|(simp (disch:=first|decide|assumption) only [lk])))) (Ao Qv Bb))))))
theorem sg7 {n:Nat} {b:ByteArray} {c:List Ab} {d:Int} {a:Dm} {t:Qs} (h:g7 n b c d a=some t):Dc pg KK.gl 7 [Az b,As Ab.E c,Aa d,AV.agg [Az a.Name,Aa a.D9,Aa a.B6,Aa a.C1,Aa a.Ca,Aa a.Dy,Aa a.Dz]] ((AV.B4 [As Ae.E t.1,Aa t.2])):=
 A1 (by first|rfl|simp [Av,clean,Al,En.Di]) (by first|rfl|simp [Av,clean,Al,En.Di]) (zB b (As Ab.E c) d a.Name a.D9 a.B6 a.C1 a.Ca a.Dy a.Dz _ (Aex n b c d a (C2 ((AV.B4 [As Ae.E t.1,Aa t.2]))) (fun r e u m h=>by rw [e];exact h) h))
theorem nE (n:Nat) (c:Int) (d:List Ab) (c8:Bool) (e:List (List Ab)) (f a b g:Int) {t:(Int)⊕Vi} (R:AV→Mem→Prop) (N0:St→Prop) (hR:∀r:Vi,t=(.inr r)→∀u m,C2 ((Ah r)) u m→R u m) (hN0:∀y:Int,t=(.inl y)→∀s':St,Cl KK 33 0 s' (Ty c (As Ab.E d) c8 (As (Ct Ab.E) e) f y a b [])→N0 s'):Ld n c d c8 e f a b g=some t→bH c (As Ab.E d) c8 (As (Ct Ab.E) e) f g a b [] R N0:=by
 unfold Ld bH
 refine Aq (fun _=> ?_) (fun _=> ?_)
 ·refine At fun h i=> ?_
  refine iq (AV.Dn [As Ab.E h] 0) (C5 (E:=(Ct Ab.E)) rfl i) ?_
  refine iq (As Ab.E h) rfl ?_
  refine Aq (fun _=> ?_) (fun _=> ?_)
  ·refine At fun k j=> ?_
   refine imp (An (Acl j)) ?_
   refine imp Dk ?_
   iterate 2 refine imp Ai ?_
   refine Aq (fun _=> ?_) (fun _=> ?_)
   ·exact C9 hR rfl rfl
   ·exact fun hg=>hN0 _ (Option.some.inj hg).symm _ (Bc [(0,0)] rfl rfl rfl (oR (A9 (Bz (E:=Ab.E) _ false) (oR (oR (A9 (Bz (E:=(Ct Ab.E)) _ false) (oR (oR Bn))))))) (Ao (Aw (cs:=[Aa a,Aa b]) (ty:=24) rfl (show Am _ 0=_ from (by first|rfl|(simp (disch:=first|decide|assumption) only [lk])))) Bb))
  ·exact fun hg=>hN0 _ (Option.some.inj hg).symm _ (Bc [(0,0)] rfl rfl rfl (oR (A9 (Bz (E:=Ab.E) _ false) (oR (oR (A9 (Bz (E:=(Ct Ab.E)) _ false) (oR (oR Bn))))))) (Ao (Aw (cs:=[Aa a,Aa b]) (ty:=24) rfl (show Am _ 0=_ from (by first|rfl|(simp (disch:=first|decide|assumption) only [lk])))) Bb))
 ·exact C9 hR rfl rfl
theorem nR (n:Nat) (a:Int) (b:List Ab) (c8:Bool) (c:List (List Ab)) (d f g:Int) {t:Vi} (R:AV→Mem→Prop) (hR:∀r:Vi,t=r→∀u m,C2 ((Ah r)) u m→R u m) (k:Nat) (x:Int) (hx:Bt (fun y:Int=>Ld n a b c8 c d f g y) k x=some t) {s:St} (hw:Cl KK 33 0 s (Ty a (As Ab.E b) c8 (As (Ct Ab.E) c) d x f g [])):C6 pg KK 33 0 (.loop eB) s (cE R):=
 Ac2 R (σ:=Nat×(Int)) (fun z=>Bt (fun y:Int=>Ld n a b c8 c d f g y) z.1 z.2=some t) (fun z=>a) (fun z=>(As Ab.E b)) (fun z=>c8) (fun z=>(As (Ct Ab.E) c)) (fun z=>d) (fun z=>z.2) (fun z=>f) (fun z=>g) (fun z=>[]) (fun z=>z.1) (by
  rintro ⟨k,y⟩ h
  cases k with
  |zero=>exact (Cz h).elim
  |succ k=>
   obtain ⟨u,i,j,l⟩:=Cv h
   exact nE n a b c8 c d f g y R _ (fun r e=>hR r (l _ e).symm) (fun y' e s' hw=>⟨(k,y'),j _ e,Nat.lt_succ_self k,hw⟩) i) (k,x) hx hw
theorem Aap (n:Nat) (b:List (List Ab)) (c:Int) (d:List Ab) (a:Ea) {t:Vi} (R:AV→Mem→Prop) (hR:∀r:Vi,t=r→∀u m,C2 ((Ah r)) u m→R u m):yI n b c d a=some t→F19 (As (Ct Ab.E) b) c (As Ab.E d) a.Bu a.Bj R:=by
 unfold yI F19
 refine iq (Aa (b.length:Int)) rfl ?_
 refine imp Ai ?_
 exact fun hg=>nR n c d false b (b.length:Int) a.Bu a.Bj R hR n _ hg (Bc [(0,0)] rfl rfl rfl (oR (A9 (Bz (E:=Ab.E) _ false) (oR (oR (A9 (Bz (E:=(Ct Ab.E)) _ false) (oR (oR Bn))))))) (Ao (Aw (cs:=[Aa a.Bu,Aa a.Bj]) (ty:=24) rfl (show Am _ 0=_ from (by first|rfl|(simp (disch:=first|decide|assumption) only [lk])))) Bb))
theorem Ac7 {n:Nat} {b:List (List Ab)} {c:Int} {d:List Ab} {a:Ea} {t:Vi} (h:yI n b c d a=some t):Dc pg KK.gl 19 [As (Ct Ab.E) b,Aa c,As Ab.E d,AV.agg [Aa a.Bu,Aa a.Bj]] ((Ah t)):=
 A1 (by first|rfl|simp [Av,clean,Al,En.Di]) (by first|rfl|simp [Av,clean,Al,En.Di]) (sQ (As (Ct Ab.E) b) c (As Ab.E d) a.Bu a.Bj _ (Aap n b c d a (C2 ((Ah t))) (fun r e u m h=>by rw [e];exact h) h))
theorem Aau (n:Nat) (a:List Ab) {t:sE} (R:AV→Mem→Prop) (hR:∀r:sE,t=r→∀u m,C2 ((Aa r)) u m→R u m):g26 n a=some t→F26 (AV.Dn [As Ab.E a] 0) R:=by
 unfold g26 F26
 refine iq (As Ab.E a) rfl ?_
 refine At fun c b=> ?_
 refine imp (An (hG b)) ?_
 refine imp Ai ?_
 exact C9 hR rfl rfl
theorem Afs {n:Nat} {a:List Ab} {t:sE} (h:g26 n a=some t):Dc pg KK.gl 26 [AV.Dn [As Ab.E a] 0] ((Aa t)):=
 A1 (by first|rfl|simp [Av,clean,Al,En.Di]) (by first|rfl|simp [Av,clean,Al,En.Di]) (qO (AV.Dn [As Ab.E a] 0) _ (Aau n a (C2 ((Aa t))) (fun r e u m h=>by rw [e];exact h) h))
theorem zZ (n:Nat) (a:ByteArray) (b c:Int) (d:ByteArray) {t:tK} (R:AV→Mem→Prop) (hR:∀r:tK,t=r→∀u m,C2 ((Aa r)) u m→R u m):g27 n a b c d=some t→F27 (AV.Dn [Az a,Aa b,Aa c,Az d] 0) R:=by
 unfold g27 F27
 refine iq (AV.agg [Az a,Aa b,Aa c,Az d]) rfl ?_
 refine imp Ku ?_
 refine imp Dh ?_
 iterate 2 refine imp Ai ?_
 refine imp Dh ?_
 refine At fun f e=> ?_
 refine imp (An (Ac8 e)) ?_
 refine imp Ai ?_
 exact C9 hR rfl rfl
theorem Afq {n:Nat} {a:ByteArray} {b:Int} {c:Int} {d:ByteArray} {t:tK} (h:g27 n a b c d=some t):Dc pg KK.gl 27 [AV.Dn [Az a,Aa b,Aa c,Az d] 0] ((Aa t)):=
 A1 (by first|rfl|simp [Av,clean,Al,En.Di]) (by first|rfl|simp [Av,clean,Al,En.Di]) (wW (AV.Dn [Az a,Aa b,Aa c,Az d] 0) _ (zZ n a b c d (C2 ((Aa t))) (fun r e u m h=>by rw [e];exact h) h))
theorem Ab2 (n:Nat) (a:ByteArray) (b c d e f g:Int) {t:pB} (R:AV→Mem→Prop) (hR:∀r:pB,t=r→∀u m,C2 ((Aa r)) u m→R u m):g28 n a b c d e f g=some t→F28 (AV.Dn [Az a,Aa b,Aa c,Aa d,Aa e,Aa f,Aa g] 0) R:=by
 unfold g28 F28
 refine iq (AV.agg [Az a,Aa b,Aa c,Aa d,Aa e,Aa f,Aa g]) rfl ?_
 refine imp V6 ?_
 refine imp Dh ?_
 iterate 6 refine imp Ai ?_
 refine At fun i h=> ?_
 refine imp (An (zV h)) ?_
 refine imp Ai ?_
 exact C9 hR rfl rfl
theorem Ag6 {n:Nat} {a:ByteArray} {b:Int} {c:Int} {d:Int} {f:Int} {g:Int} {i:Int} {t:pB} (h:g28 n a b c d f g i=some t):Dc pg KK.gl 28 [AV.Dn [Az a,Aa b,Aa c,Aa d,Aa f,Aa g,Aa i] 0] ((Aa t)):=
 A1 (by first|rfl|simp [Av,clean,Al,En.Di]) (by first|rfl|simp [Av,clean,Al,En.Di]) (uY (AV.Dn [Az a,Aa b,Aa c,Aa d,Aa f,Aa g,Aa i] 0) _ (Ab2 n a b c d f g i (C2 ((Aa t))) (fun r e u m h=>by rw [e];exact h) h))
theorem y9 (n:Nat) (a b:Int) {t:w4} (R:AV→Mem→Prop) (hR:∀r:w4,t=r→∀u m,C2 ((Aa r)) u m→R u m):g29 n a b=some t→F29 (AV.Dn [Aa a,Aa b] 0) R:=by
 unfold g29 F29
 refine iq (AV.agg [Aa a,Aa b]) rfl ?_
 refine imp Fe ?_
 iterate 2 refine imp Ai ?_
 refine At fun d c=> ?_
 refine imp (An (Ya c)) ?_
 refine imp Ai ?_
 exact C9 hR rfl rfl
theorem Af5 {n:Nat} {a:Int} {b:Int} {t:w4} (h:g29 n a b=some t):Dc pg KK.gl 29 [AV.Dn [Aa a,Aa b] 0] ((Aa t)):=
 A1 (by first|rfl|simp [Av,clean,Al,En.Di]) (by first|rfl|simp [Av,clean,Al,En.Di]) (sZ (AV.Dn [Aa a,Aa b] 0) _ (y9 n a b (C2 ((Aa t))) (fun r e u m h=>by rw [e];exact h) h))
theorem Acn (n:Nat) (a:Dm) (b c:Int) {t:wK} (R:AV→Mem→Prop) (hR:∀r:wK,t=r→∀u m,C2 ((AV.B4 [Aa r.1,Aa r.2])) u m→R u m):qK n a b c=some t→F62 a.Name a.D9 a.B6 a.C1 a.Ca a.Dy a.Dz b c R:=by
 unfold qK F62
 refine At fun g d=> ?_
 refine imp (An (zV d)) ?_
 refine imp Ai ?_
 refine Aq (fun _=> ?_) (fun _=> ?_)
 ·exact fun hg=>Dp rfl (hR _ (Option.some.inj hg).symm) (fS (fS Bx))
 ·refine Aq (fun _=> ?_) (fun _=> ?_)
  ·exact fun hg=>Dp rfl (hR _ (Option.some.inj hg).symm) (fS (fS Bx))
  ·refine Aq (fun _=> ?_) (fun _=> ?_)
   ·exact fun hg=>Dp rfl (hR _ (Option.some.inj hg).symm) (fS (fS Bx))
   ·refine Aq (fun _=> ?_) (fun _=> ?_)
    ·exact fun hg=>Dp rfl (hR _ (Option.some.inj hg).symm) (fS (fS Bx))
    ·refine Aq (fun _=> ?_) (fun _=> ?_)
     ·exact fun hg=>Dp rfl (hR _ (Option.some.inj hg).symm) (fS (fS Bx))
     ·refine Aq (fun _=> ?_) (fun _=> ?_)
      ·exact fun hg=>Dp rfl (hR _ (Option.some.inj hg).symm) (fS (fS Bx))
      ·refine Aq (fun _=> ?_) (fun _=> ?_)
       ·exact fun hg=>Dp rfl (hR _ (Option.some.inj hg).symm) (fS (fS Bx))
       ·refine Aq (fun _=> ?_) (fun _=> ?_)
        ·refine At fun h e=> ?_
         refine imp (An (fH e)) ?_
         refine imp Dk ?_
         iterate 2 refine imp Ai ?_
         exact fun hg=>Dp rfl (hR _ (Option.some.inj hg).symm) (fS (fS Bx))
        ·refine At fun i f=> ?_
         refine imp (An (fH f)) ?_
         refine imp Dk ?_
         iterate 2 refine imp Ai ?_
         exact fun hg=>Dp rfl (hR _ (Option.some.inj hg).symm) (fS (fS Bx))
theorem Agy {n:Nat} {a:Dm} {b:Int} {c:Int} {t:wK} (h:qK n a b c=some t):Dc pg KK.gl 62 [AV.agg [Az a.Name,Aa a.D9,Aa a.B6,Aa a.C1,Aa a.Ca,Aa a.Dy,Aa a.Dz],Aa b,Aa c] ((AV.B4 [Aa t.1,Aa t.2])):=
 A1 (by first|rfl|simp [Av,clean,Al,En.Di]) (by first|rfl|simp [Av,clean,Al,En.Di]) (uC a.Name a.D9 a.B6 a.C1 a.Ca a.Dy a.Dz b c _ (Acn n a b c (C2 ((AV.B4 [Aa t.1,Aa t.2]))) (fun r e u m h=>by rw [e];exact h) h))
theorem Abm (n:Nat) (a:Ab) (b:Int) {t:u9} (R:AV→Mem→Prop) (hR:∀r:u9,t=r→∀u m,C2 ((Ah r)) u m→R u m):g64 n a b=some t→F64 a.Ac a.Ak a.Aj a.Ad a.Ay a.Br (AV.Dn [Aa b] 0) R:=by
 unfold g64 F64
 refine iq (Aa b) rfl ?_
 refine imp Ai ?_
 exact C9 hR rfl rfl
theorem Ahb {n:Nat} {a:Ab} {b:Int} {t:u9} (h:g64 n a b=some t):Dc pg KK.gl 64 [AV.agg [Aa a.Ac,Aa a.Ak,Aa a.Aj,Aa a.Ad,Aa a.Ay,Aa a.Br],AV.Dn [Aa b] 0] ((Ah t)):=
 A1 (by first|rfl|simp [Av,clean,Al,En.Di]) (by first|rfl|simp [Av,clean,Al,En.Di]) (vH a.Ac a.Ak a.Aj a.Ad a.Ay a.Br (AV.Dn [Aa b] 0) _ (Abm n a b (C2 ((Ah t))) (fun r e u m h=>by rw [e];exact h) h))
end Go.Proofs.YtmhnnmfcjdnlhaaGreatDoor
