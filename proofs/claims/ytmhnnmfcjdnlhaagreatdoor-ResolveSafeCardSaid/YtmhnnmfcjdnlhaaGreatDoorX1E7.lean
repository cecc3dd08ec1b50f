/- A part. -/
import Derived.Test.YtmhnnmfcjdnlhaaGreatDoorX1E6
set_option linter.unusedVariables false
set_option linter.unusedSimpArgs false
set_option maxRecDepth 100000
set_option maxHeartbeats 4000000
namespace Go.Proofs.YtmhnnmfcjdnlhaaGreatDoor
theorem gM (n:Nat) (c3 am:Int) (h:ByteArray) (j d:Int) (k:ByteArray) (p q:List Ab) (e f g s v w:Int) (x:ByteArray) (z aa ab ad ae af ag ah:Int) (ai:List Ab) (c:Int) (aj:List Ab) {t:(Int×List Ab)⊕Wt} (R:AV→Mem→Prop) (N0:St→Prop) (hR:∀r:Wt,t=(.inr r)→∀u m,Hs Ab.E 47 r.1 [Value.int .i64 r.2] u m→R u m) (hN0:∀y:Int×List Ab,t=(.inl y)→∀s':St,Cl KK 64 0 s' (Uh AV.B1 c3 (B7 Ab.E 90000 y.2) am y.1 [(90000,C7 Ab.E 47 y.2),(0,some ⟨[Az h,Aa j,Aa d,Az k,As Ab.E p,As Ab.E q,Aa e,Aa f,Aa g,Aa s,Aa v,Aa w,Az x,Aa z,Aa aa,Aa ab,Aa ad,Aa ae,Aa af,Aa ag,Aa ah,As Ab.E ai],72⟩)])→N0 s'):N3 n c3 am h j d k p q e f g s v w x z aa ab ad ae af ag ah ai c aj=some t→dO AV.B1 c3 (B7 Ab.E 90000 aj) am c [(90000,C7 Ab.E 47 aj),(0,some ⟨[Az h,Aa j,Aa d,Az k,As Ab.E p,As Ab.E q,Aa e,Aa f,Aa g,Aa s,Aa v,Aa w,Az x,Aa z,Aa aa,Aa ab,Aa ad,Aa ae,Aa af,Aa ag,Aa ah,As Ab.E ai],72⟩)] R N0:=by
 unfold N3 dO
 refine Aq (fun _=> ?_) (fun _=> ?_)
 ·refine imp (Gk (show _=some ((Aa d),[]) from (Cp (b:=⟨[Az h,Aa j,Aa d,Az k,As Ab.E p,As Ab.E q,Aa e,Aa f,Aa g,Aa s,Aa v,Aa w,Az x,Aa z,Aa aa,Aa ab,Aa ad,Aa ae,Aa af,Aa ag,Aa ah,As Ab.E ai],72⟩) (by first|rfl|(rw [H5 (by first|rfl|simp [H4]|simp [Bv])];first|rfl|(simp (disch:=first|decide|assumption) only [lk]))) rfl))) ?_
  refine imp Ai ?_
  refine imp (Gk (show _=some ((AV.agg [Az h,Aa j,Aa d,Az k,As Ab.E p,As Ab.E q,Aa e,Aa f,Aa g,Aa s,Aa v,Aa w,Az x,Aa z,Aa aa,Aa ab,Aa ad,Aa ae,Aa af,Aa ag,Aa ah,As Ab.E ai]),[]) from (Ef (b:=⟨[Az h,Aa j,Aa d,Az k,As Ab.E p,As Ab.E q,Aa e,Aa f,Aa g,Aa s,Aa v,Aa w,Az x,Aa z,Aa aa,Aa ab,Aa ad,Aa ae,Aa af,Aa ag,Aa ah,As Ab.E ai],72⟩) (by first|rfl|(rw [H5 (by first|rfl|simp [H4]|simp [Bv])];first|rfl|(simp (disch:=first|decide|assumption) only [lk]))) rfl))) ?_
  refine imp dC ?_
  refine imp Dh ?_
  iterate 2 refine imp Ai ?_
  refine imp Dh ?_
  iterate 6 refine imp Ai ?_
  refine imp Dh ?_
  iterate 8 refine imp Ai ?_
  refine At fun ay ar=> ?_
  refine imp (Rf (Adv ar)) ?_
  refine imp Ai ?_
  refine At fun au an=> ?_
  refine imp (Gk (show _=some ((AV.ptr 90000 (((c:Int).toNat)*6+0)),[]) from (G1 (E:=Ab.E) rfl an))) ?_
  refine imp (Gk (show _=some ((AV.ptr 90000 (((c:Int).toNat)*6+0)),[]) from rfl)) ?_
  refine imp (Gk (show _=some ((AV.ptr 90000 (((c:Int).toNat)*6+0)),[]) from rfl)) ?_
  refine imp (Gk (show _=some ((Aa au.Ac),[]) from (Km (E:=Ab.E) (l:=aj) (ty:=47) (o:=0) (Gd (ty:=47) (by first|rfl|(rw [H5 (by first|rfl|simp [H4]|simp [Bv])];first|rfl|(simp (disch:=first|decide|assumption) only [lk]))) (C0 an).2) (C0 an).2 rfl (by decide) rfl))) ?_
  refine imp Ai ?_
  refine imp (Gk (show _=some ((Aa e),[]) from (Cp (b:=⟨[Az h,Aa j,Aa d,Az k,As Ab.E p,As Ab.E q,Aa e,Aa f,Aa g,Aa s,Aa v,Aa w,Az x,Aa z,Aa aa,Aa ab,Aa ad,Aa ae,Aa af,Aa ag,Aa ah,As Ab.E ai],72⟩) (by first|rfl|(rw [H5 (by first|rfl|simp [H4]|simp [Bv])];first|rfl|(simp (disch:=first|decide|assumption) only [lk]))) rfl))) ?_
  refine imp Ai ?_
  refine At fun al av=> ?_
  refine imp (Rf (Agt av)) ?_
  refine imp Dk ?_
  refine imp Fe ?_
  iterate 3 refine imp Ai ?_
  refine imp (Ce (sz:=2) Bi Bi rfl rfl (cs:=[Aa (0),Aa (0)]) (cs':=[Aa al.1.X,Aa al.1.Y]) (ty:=42) (by first|rfl|(rw [H5 (by first|rfl|simp [H4]|simp [Bv])];first|rfl|(simp (disch:=first|decide|assumption) only [lk]))) rfl rfl) ?_
  refine imp (Ei Bi) ?_
  refine Aq (fun _=> ?_) (fun _=> ?_)
  ·exact fun hg=>hR _ (Option.some.inj hg).symm _ _ ⟨_,rfl,D4⟩
  ·refine iq (AV.agg [Aa f,Aa g]) (Ef (b:=⟨[Az h,Aa j,Aa d,Az k,As Ab.E p,As Ab.E q,Aa e,Aa f,Aa g,Aa s,Aa v,Aa w,Az x,Aa z,Aa aa,Aa ab,Aa ad,Aa ae,Aa af,Aa ag,Aa ah,As Ab.E ai],72⟩) (by first|rfl|(simp (disch:=first|decide|assumption) only [lk])) rfl) ?_
   refine imp Fe ?_
   iterate 2 refine imp Ai ?_
   refine iq (AV.agg [Aa al.1.X,Aa al.1.Y]) (Ef (b:=⟨[Aa al.1.X,Aa al.1.Y],42⟩) (by first|rfl|(simp (disch:=first|decide|assumption) only [lk])) rfl) ?_
   refine imp Fe ?_
   iterate 2 refine imp Ai ?_
   refine At fun ak aw=> ?_
   refine imp (An (Ag3 aw)) ?_
   refine imp Fe ?_
   iterate 2 refine imp Ai ?_
   refine At fun a ap=> ?_
   refine iq (AV.ptr 90000 (((c:Int).toNat)*6+0)) (G1 (E:=Ab.E) rfl ap) ?_
   refine iq (AV.ptr 90000 (((c:Int).toNat)*6+0)) rfl ?_
   refine iq (AV.ptr 90000 (((c:Int).toNat)*6+1)) rfl ?_
   refine imp (Vy (E:=Ab.E) (l:=aj) (i:=((c:Int).toNat)) (o:=1) (y:=(⟨a.Ac,ak.X,ak.Y,a.Ad,a.Ay,a.Br⟩:Ab)) (ty:=47) (sz:=2) Bi Bi rfl rfl (by first|rfl|(simp (disch:=first|decide|assumption) only [lk])) (C0 ap).2 rfl (Nat.le_of_ble_eq_true rfl) rfl) ?_
   refine At fun aq ao=> ?_
   refine iq (AV.ptr 90000 (((c:Int).toNat)*6+0)) (G1 (E:=Ab.E) (by first|rfl|omega|(simp;done)|(simp;omega)) ao) ?_
   refine iq (AV.ptr 90000 (((c:Int).toNat)*6+0)) rfl ?_
   refine iq (AV.ptr 90000 (((c:Int).toNat)*6+1)) rfl ?_
   refine iq (AV.agg [Aa aq.Ak,Aa aq.Aj]) (Zf (E:=Ab.E) (l:=(aj.set ((c:Int).toNat) (⟨a.Ac,ak.X,ak.Y,a.Ad,a.Ay,a.Br⟩:Ab))) (ty:=47) (o:=1) (Gd (ty:=47) (by first|rfl|(simp (disch:=first|decide|assumption) only [lk])) (C0 ao).2) (C0 ao).2 rfl (by decide) rfl) ?_
   refine imp Fe ?_
   iterate 2 refine imp Ai ?_
   refine At fun az ax=> ?_
   refine imp (An (Ya ax)) ?_
   refine imp Ai ?_
   refine Aq (fun _=> ?_) (fun _=> ?_)
   ·exact fun hg=>hR _ (Option.some.inj hg).symm _ _ ⟨_,rfl,D4⟩
   ·exact fun hg=>hN0 _ (Option.some.inj hg).symm _ (Bc [(90000,90000),(0,0)] rfl rfl rfl (oR (oR (oR (A9 (F1 (E:=Ab.E) (id:=90000) (l':=(aj.set ((c:Int).toNat) (⟨a.Ac,ak.X,ak.Y,a.Ad,a.Ay,a.Br⟩:Ab))) (by first|rfl|omega|(simp;done)|(simp;omega)) rfl) (oR (oR Bn)))))) (Ao (Da (E:=Ab.E) (ty:=47) (l':=(aj.set ((c:Int).toNat) (⟨a.Ac,ak.X,ak.Y,a.Ad,a.Ay,a.Br⟩:Ab))) rfl (show Am _ 90000=_ from (by first|rfl|(simp (disch:=first|decide|assumption) only [lk])))) (Ao (Aw (cs:=[Az h,Aa j,Aa d,Az k,As Ab.E p,As Ab.E q,Aa e,Aa f,Aa g,Aa s,Aa v,Aa w,Az x,Aa z,Aa aa,Aa ab,Aa ad,Aa ae,Aa af,Aa ag,Aa ah,As Ab.E ai]) (ty:=72) (by simp [clean,Av,Al]) (show Am _ 0=_ from (by first|rfl|(simp (disch:=first|decide|assumption) only [lk])))) Bb)))
 ·exact fun hg=>hR _ (Option.some.inj hg).symm _ _ ⟨_,rfl,Gr (E:=Ab.E) (ty:=47) (l:=aj) rfl (by first|rfl|(simp (disch:=first|decide|assumption) only [lk]))⟩
theorem iC (n:Nat) (c3 a:Int) (b:ByteArray) (c d:Int) (f:ByteArray) (g i:List Ab) (j l o p q v:Int) (w:ByteArray) (aa ab ad ae af ag ah ai:Int) (aj:List Ab) {t:Wt} (R:AV→Mem→Prop) (hR:∀r:Wt,t=r→∀u m,Hs Ab.E 47 r.1 [Value.int .i64 r.2] u m→R u m) (k:Nat) (x:Int×List Ab) (hx:Bt (fun y:Int×List Ab=>N3 n c3 a b c d f g i j l o p q v w aa ab ad ae af ag ah ai aj y.1 y.2) k x=some t) {s:St} (hw:Cl KK 64 0 s (Uh AV.B1 c3 (B7 Ab.E 90000 x.2) a x.1 [(90000,C7 Ab.E 47 x.2),(0,some ⟨[Az b,Aa c,Aa d,Az f,As Ab.E g,As Ab.E i,Aa j,Aa l,Aa o,Aa p,Aa q,Aa v,Az w,Aa aa,Aa ab,Aa ad,Aa ae,Aa af,Aa ag,Aa ah,Aa ai,As Ab.E aj],72⟩)])):C6 pg KK 64 0 (.loop eF) s (eW R):=
 Adz R (σ:=Nat×(Int×List Ab)) (fun z=>Bt (fun y:Int×List Ab=>N3 n c3 a b c d f g i j l o p q v w aa ab ad ae af ag ah ai aj y.1 y.2) z.1 z.2=some t) (fun z=>AV.B1) (fun z=>c3) (fun z=>(B7 Ab.E 90000 z.2.2)) (fun z=>a) (fun z=>z.2.1) (fun z=>[(90000,C7 Ab.E 47 z.2.2),(0,some ⟨[Az b,Aa c,Aa d,Az f,As Ab.E g,As Ab.E i,Aa j,Aa l,Aa o,Aa p,Aa q,Aa v,Az w,Aa aa,Aa ab,Aa ad,Aa ae,Aa af,Aa ag,Aa ah,Aa ai,As Ab.E aj],72⟩)]) (fun z=>z.1) (by
  rintro ⟨k,y⟩ h
  cases k with
  |zero=>exact (Cz h).elim
  |succ k=>
   obtain ⟨u,h1,h2,h3⟩:=Cv h
   exact gM n c3 a b c d f g i j l o p q v w aa ab ad ae af ag ah ai aj y.1 y.2 R _ (fun r e=>hR r (h3 _ e).symm) (fun y' e s' hw=>⟨(k,y'),h2 _ e,Nat.lt_succ_self k,hw⟩) h1) (k,x) hx hw
theorem sN (n:Nat) (a:Fj) {t:Wt} (R:AV→Mem→Prop) (hR:∀r:Wt,t=r→∀u m,Hs Ab.E 47 r.1 [Value.int .i64 r.2] u m→R u m):g45 n a=some t→F45 a.A7 a.A3 a.Ar a.Ba (As Ab.E a.before) (As Ab.E a.later) a.Ap a.A5 a.A6 a.Au a.Bm a.B8 a.B2 a.B3 a.Bf a.Bs a.Bg a.By a.Bw a.Df a.Dg (As Ab.E a.whole) R:=by
 unfold g45 F45
 refine imp (Ei rfl) ?_
 refine imp (Ei rfl) ?_
 refine imp (Ei rfl) ?_
 refine At fun c b=> ?_
 refine imp (G5 (show E3 _ _ _ _ _ _ (B7 Ab.E 5 a.later) [(5,C7 Ab.E 47 a.later)] from Nn b)) ?_
 refine imp (Cj (show _=some ((Aa (a.later.length:Int)),[]) from H7)) ?_
 refine imp Ai ?_
 exact fun hg=>iC n (0) (a.later.length:Int) a.A7 a.A3 a.Ar a.Ba a.before a.later a.Ap a.A5 a.A6 a.Au a.Bm a.B8 a.B2 a.B3 a.Bf a.Bs a.Bg a.By a.Bw a.Df a.Dg a.whole R hR n _ hg (Bc [(90000,5),(0,0)] rfl rfl rfl (oR (oR (oR (A9 (F1 (E:=Ab.E) (id:=5) (l':=a.later) rfl rfl) (oR (oR Bn)))))) (Ao (Da (E:=Ab.E) (ty:=47) (l':=a.later) rfl (show Am _ 5=_ from (by first|rfl|(simp (disch:=first|decide|assumption) only [lk])))) (Ao (Aw (cs:=[Az a.A7,Aa a.A3,Aa a.Ar,Az a.Ba,As Ab.E a.before,As Ab.E a.later,Aa a.Ap,Aa a.A5,Aa a.A6,Aa a.Au,Aa a.Bm,Aa a.B8,Az a.B2,Aa a.B3,Aa a.Bf,Aa a.Bs,Aa a.Bg,Aa a.By,Aa a.Bw,Aa a.Df,Aa a.Dg,As Ab.E a.whole]) (ty:=72) (by simp [clean,Av,Al]) (show Am _ 0=_ from (by first|rfl|(simp (disch:=first|decide|assumption) only [lk])))) Bb)))
theorem Ad7 {n k:Nat} {look:Nat→Option B5} {a:Fj} {t:Wt} (h:g45 n a=some t):E3 pg KK.gl look k 45 [AV.agg [Az a.A7,Aa a.A3,Aa a.Ar,Az a.Ba,As Ab.E a.before,As Ab.E a.later,Aa a.Ap,Aa a.A5,Aa a.A6,Aa a.Au,Aa a.Bm,Aa a.B8,Az a.B2,Aa a.B3,Aa a.Bf,Aa a.Bs,Aa a.Bg,Aa a.By,Aa a.Bw,Aa a.Df,Aa a.Dg,As Ab.E a.whole]] (.B4 (B7 Ab.E k t.1::([Value.int .i64 t.2]:List Value).map AV.sc)) [(k,C7 Ab.E 47 t.1)]:=
 Mc (by first|rfl|simp [Av,clean,Al,En.Di]) (wX a.A7 a.A3 a.Ar a.Ba (As Ab.E a.before) (As Ab.E a.later) a.Ap a.A5 a.A6 a.Au a.Bm a.B8 a.B2 a.B3 a.Bf a.Bs a.Bg a.By a.Bw a.Df a.Dg (As Ab.E a.whole) _ (sN n a (Hs Ab.E 47 t.1 [Value.int .i64 t.2]) (fun r e u m h=>by rw [e];exact h) h))
theorem fO (n:Nat) (c3 So:Int) (j:ByteArray) (k h:Int) (p:ByteArray) (q s:List Ab) (v w x z aa ab:Int) (ad:ByteArray) (ae af ag ah ai aj ak al:Int) (am:List Ab) (d:Int) (f:List Ab) (g an ao ap aq ar:Int) {t:(Int×List Ab×Int×Int×Int×Int×Int×Int)⊕U7} (R:AV→Mem→Prop) (N0:St→Prop) (hR:∀r:U7,t=(.inr r)→∀u m,Hs Ab.E 47 r.1 [Value.int .i64 r.2] u m→R u m) (hN0:∀y:Int×List Ab×Int×Int×Int×Int×Int×Int,t=(.inl y)→∀s':St,Cl KK 82 0 s' (Tb AV.B1 c3 (B7 Ab.E 90000 y.2.1) So y.1 y.2.2.1 y.2.2.2.1 y.2.2.2.2.1 y.2.2.2.2.2.1 y.2.2.2.2.2.2.1 y.2.2.2.2.2.2.2 [(90000,C7 Ab.E 47 y.2.1),(0,some ⟨[Az j,Aa k,Aa h,Az p,As Ab.E q,As Ab.E s,Aa v,Aa w,Aa x,Aa z,Aa aa,Aa ab,Az ad,Aa ae,Aa af,Aa ag,Aa ah,Aa ai,Aa aj,Aa ak,Aa al,As Ab.E am],72⟩)])→N0 s'):N6 n c3 So j k h p q s v w x z aa ab ad ae af ag ah ai aj ak al am d f g an ao ap aq ar=some t→bT AV.B1 c3 (B7 Ab.E 90000 f) So d g an ao ap aq ar [(90000,C7 Ab.E 47 f),(0,some ⟨[Az j,Aa k,Aa h,Az p,As Ab.E q,As Ab.E s,Aa v,Aa w,Aa x,Aa z,Aa aa,Aa ab,Az ad,Aa ae,Aa af,Aa ag,Aa ah,Aa ai,Aa aj,Aa ak,Aa al,As Ab.E am],72⟩)] R N0:=by
 unfold N6 bT
 refine Aq (fun _=> ?_) (fun _=> ?_)
 ·refine At fun ax au=> ?_
  refine iq (AV.ptr 90000 (((d:Int).toNat)*6+0)) (G1 (E:=Ab.E) rfl au) ?_
  refine iq (AV.ptr 90000 (((d:Int).toNat)*6+0)) rfl ?_
  refine iq (AV.ptr 90000 (((d:Int).toNat)*6+1)) rfl ?_
  refine iq (AV.agg [Aa ax.Ak,Aa ax.Aj]) (Zf (E:=Ab.E) (l:=f) (ty:=47) (o:=1) (Gd (ty:=47) (by first|rfl|(simp (disch:=first|decide|assumption) only [lk])) (C0 au).2) (C0 au).2 rfl (by decide) rfl) ?_
  refine imp Fe ?_
  iterate 2 refine imp Ai ?_
  refine At fun bc az=> ?_
  refine imp (An (jX az)) ?_
  refine imp Dk ?_
  iterate 2 refine imp Ai ?_
  refine iq (Aa h) (Cp (b:=⟨[Az j,Aa k,Aa h,Az p,As Ab.E q,As Ab.E s,Aa v,Aa w,Aa x,Aa z,Aa aa,Aa ab,Az ad,Aa ae,Aa af,Aa ag,Aa ah,Aa ai,Aa aj,Aa ak,Aa al,As Ab.E am],72⟩) (by first|rfl|(simp (disch:=first|decide|assumption) only [lk])) rfl) ?_
  refine imp Ai ?_
  refine At fun e ba=> ?_
  refine imp (An (fH ba)) ?_
  refine imp Dk ?_
  iterate 2 refine imp Ai ?_
  refine iq (Aa (if e.1>(1) then e.1 else (1))) Bi ?_
  refine imp Ai ?_
  refine At fun a ay=> ?_
  refine iq (AV.ptr 90000 (((d:Int).toNat)*6+0)) (G1 (E:=Ab.E) rfl ay) ?_
  refine iq (AV.ptr 90000 (((d:Int).toNat)*6+0)) rfl ?_
  refine iq (AV.ptr 90000 (((d:Int).toNat)*6+0)) rfl ?_
  refine imp (Ks (E:=Ab.E) (l:=f) (i:=((d:Int).toNat)) (o:=0) (y:=(⟨IntKind.wrap .i64 (g+(if e.1>(1) then e.1 else (1))),a.Ak,a.Aj,a.Ad,a.Ay,a.Br⟩:Ab)) (ty:=47) Bi Bi rfl (by first|rfl|(simp (disch:=first|decide|assumption) only [lk])) (C0 ay).2 rfl (by decide) rfl) ?_
  refine At fun bb av=> ?_
  refine iq (AV.ptr 90000 (((d:Int).toNat)*6+0)) (G1 (E:=Ab.E) (by first|rfl|omega|(simp;done)|(simp;omega)) av) ?_
  refine iq (AV.ptr 90000 (((d:Int).toNat)*6+0)) rfl ?_
  refine iq (AV.ptr 90000 (((d:Int).toNat)*6+0)) rfl ?_
  refine iq (Aa bb.Ac) (Km (E:=Ab.E) (l:=(f.set ((d:Int).toNat) (⟨IntKind.wrap .i64 (g+(if e.1>(1) then e.1 else (1))),a.Ak,a.Aj,a.Ad,a.Ay,a.Br⟩:Ab))) (ty:=47) (o:=0) (Gd (ty:=47) (by first|rfl|(simp (disch:=first|decide|assumption) only [lk])) (C0 av).2) (C0 av).2 rfl (by decide) rfl) ?_
  refine imp Ai ?_
  refine Aq (fun _=> ?_) (fun _=> ?_)
  ·exact fun hg=>hR _ (Option.some.inj hg).symm _ _ ⟨_,rfl,D4⟩
  ·refine At fun c aw=> ?_
   refine iq (AV.ptr 90000 (((d:Int).toNat)*6+0)) (G1 (E:=Ab.E) (by first|rfl|omega|(simp;done)|(simp;omega)) aw) ?_
   refine iq (AV.agg [Aa c.Ac,Aa c.Ak,Aa c.Aj,Aa c.Ad,Aa c.Ay,Aa c.Br]) (rS (E:=Ab.E) (l:=(f.set ((d:Int).toNat) (⟨IntKind.wrap .i64 (g+(if e.1>(1) then e.1 else (1))),a.Ak,a.Aj,a.Ad,a.Ay,a.Br⟩:Ab))) (ty:=47) rfl (Gd (ty:=47) (by first|rfl|(simp (disch:=first|decide|assumption) only [lk])) (C0 aw).2) (C0 aw).2 rfl) ?_
   refine imp Fp ?_
   iterate 6 refine imp Ai ?_
   refine imp (Ce (sz:=6) Bi Bi rfl rfl (cs:=[Aa g,Aa an,Aa ao,Aa ap,Aa aq,Aa ar]) (cs':=[Aa c.Ac,Aa c.Ak,Aa c.Aj,Aa c.Ad,Aa c.Ay,Aa c.Br]) (ty:=47) (by first|rfl|(simp (disch:=first|decide|assumption) only [lk])) rfl rfl) ?_
   exact fun hg=>hN0 _ (Option.some.inj hg).symm _ (Bc [(90000,90000),(88,88),(0,0)] rfl rfl rfl (oR (oR (oR (A9 (F1 (E:=Ab.E) (id:=90000) (l':=(f.set ((d:Int).toNat) (⟨IntKind.wrap .i64 (g+(if e.1>(1) then e.1 else (1))),a.Ak,a.Aj,a.Ad,a.Ay,a.Br⟩:Ab))) (by first|rfl|omega|(simp;done)|(simp;omega)) rfl) (oR (oR (oR Bn))))))) (Ao (Aw (cs:=[Aa c.Ac,Aa c.Ak,Aa c.Aj,Aa c.Ad,Aa c.Ay,Aa c.Br]) (ty:=47) rfl (show Am _ 88=_ from (by first|rfl|(simp (disch:=first|decide|assumption) only [lk])))) (Ao (Da (E:=Ab.E) (ty:=47) (l':=(f.set ((d:Int).toNat) (⟨IntKind.wrap .i64 (g+(if e.1>(1) then e.1 else (1))),a.Ak,a.Aj,a.Ad,a.Ay,a.Br⟩:Ab))) rfl (show Am _ 90000=_ from (by first|rfl|(simp (disch:=first|decide|assumption) only [lk])))) (Ao (Aw (cs:=[Az j,Aa k,Aa h,Az p,As Ab.E q,As Ab.E s,Aa v,Aa w,Aa x,Aa z,Aa aa,Aa ab,Az ad,Aa ae,Aa af,Aa ag,Aa ah,Aa ai,Aa aj,Aa ak,Aa al,As Ab.E am]) (ty:=72) (by simp [clean,Av,Al]) (show Am _ 0=_ from (by first|rfl|(simp (disch:=first|decide|assumption) only [lk])))) Bb))))
 ·exact fun hg=>hR _ (Option.some.inj hg).symm _ _ ⟨_,rfl,Gr (E:=Ab.E) (ty:=47) (l:=f) rfl (by first|rfl|(simp (disch:=first|decide|assumption) only [lk]))⟩
theorem iF (n:Nat) (c3 So:Int) (a:ByteArray) (b c:Int) (d:ByteArray) (f g:List Ab) (i j l o p q:Int) (v:ByteArray) (w aa ab ad ae af ag ah:Int) (ai:List Ab) {t:U7} (R:AV→Mem→Prop) (hR:∀r:U7,t=r→∀u m,Hs Ab.E 47 r.1 [Value.int .i64 r.2] u m→R u m) (k:Nat) (x:Int×List Ab×Int×Int×Int×Int×Int×Int) (hx:Bt (fun y:Int×List Ab×Int×Int×Int×Int×Int×Int=>N6 n c3 So a b c d f g i j l o p q v w aa ab ad ae af ag ah ai y.1 y.2.1 y.2.2.1 y.2.2.2.1 y.2.2.2.2.1 y.2.2.2.2.2.1 y.2.2.2.2.2.2.1 y.2.2.2.2.2.2.2) k x=some t) {s:St} (hw:Cl KK 82 0 s (Tb AV.B1 c3 (B7 Ab.E 90000 x.2.1) So x.1 x.2.2.1 x.2.2.2.1 x.2.2.2.2.1 x.2.2.2.2.2.1 x.2.2.2.2.2.2.1 x.2.2.2.2.2.2.2 [(90000,C7 Ab.E 47 x.2.1),(0,some ⟨[Az a,Aa b,Aa c,Az d,As Ab.E f,As Ab.E g,Aa i,Aa j,Aa l,Aa o,Aa p,Aa q,Az v,Aa w,Aa aa,Aa ab,Aa ad,Aa ae,Aa af,Aa ag,Aa ah,As Ab.E ai],72⟩)])):C6 pg KK 82 0 (.loop bM) s (dU R):=
 Adl R (σ:=Nat×(Int×List Ab×Int×Int×Int×Int×Int×Int)) (fun z=>Bt (fun y:Int×List Ab×Int×Int×Int×Int×Int×Int=>N6 n c3 So a b c d f g i j l o p q v w aa ab ad ae af ag ah ai y.1 y.2.1 y.2.2.1 y.2.2.2.1 y.2.2.2.2.1 y.2.2.2.2.2.1 y.2.2.2.2.2.2.1 y.2.2.2.2.2.2.2) z.1 z.2=some t) (fun z=>AV.B1) (fun z=>c3) (fun z=>(B7 Ab.E 90000 z.2.2.1)) (fun z=>So) (fun z=>z.2.1) (fun z=>z.2.2.2.1) (fun z=>z.2.2.2.2.1) (fun z=>z.2.2.2.2.2.1) (fun z=>z.2.2.2.2.2.2.1) (fun z=>z.2.2.2.2.2.2.2.1) (fun z=>z.2.2.2.2.2.2.2.2) (fun z=>[(90000,C7 Ab.E 47 z.2.2.1),(0,some ⟨[Az a,Aa b,Aa c,Az d,As Ab.E f,As Ab.E g,Aa i,Aa j,Aa l,Aa o,Aa p,Aa q,Az v,Aa w,Aa aa,Aa ab,Aa ad,Aa ae,Aa af,Aa ag,Aa ah,As Ab.E ai],72⟩)]) (fun z=>z.1) (by
  rintro ⟨k,y⟩ h
  cases k with
  |zero=>exact (Cz h).elim
  |succ k=>
   obtain ⟨u,h1,h2,h3⟩:=Cv h
   exact fO n c3 So a b c d f g i j l o p q v w aa ab ad ae af ag ah ai y.1 y.2.1 y.2.2.1 y.2.2.2.1 y.2.2.2.2.1 y.2.2.2.2.2.1 y.2.2.2.2.2.2.1 y.2.2.2.2.2.2.2 R _ (fun r e=>hR r (h3 _ e).symm) (fun y' e s' hw=>⟨(k,y'),h2 _ e,Nat.lt_succ_self k,hw⟩) h1) (k,x) hx hw
theorem wO (n:Nat) (a:Fj) {t:U7} (R:AV→Mem→Prop) (hR:∀r:U7,t=r→∀u m,Hs Ab.E 47 r.1 [Value.int .i64 r.2] u m→R u m):g46 n a=some t→F46 a.A7 a.A3 a.Ar a.Ba (As Ab.E a.before) (As Ab.E a.later) a.Ap a.A5 a.A6 a.Au a.Bm a.B8 a.B2 a.B3 a.Bf a.Bs a.Bg a.By a.Bw a.Df a.Dg (As Ab.E a.whole) R:=by
 unfold g46 F46
 refine imp (Ei rfl) ?_
 refine imp (Ei rfl) ?_
 refine imp (Ei rfl) ?_
 refine Aq (fun _=> ?_) (fun _=> ?_)
 ·exact fun hg=>hR _ (Option.some.inj hg).symm _ _ ⟨_,rfl,D4⟩
 ·refine Aq (fun _=> ?_) (fun _=> ?_)
  ·exact fun hg=>hR _ (Option.some.inj hg).symm _ _ ⟨_,rfl,D4⟩
  ·refine At fun d c=> ?_
   refine imp (G5 (show E3 _ _ _ _ _ _ (B7 Ab.E 21 a.later) [(21,C7 Ab.E 47 a.later)] from Nn c)) ?_
   refine iq (AV.agg [Aa a.Ap,Aa a.A5,Aa a.A6,Aa a.Au,Aa a.Bm,Aa a.B8]) (Ef (b:=⟨[Az a.A7,Aa a.A3,Aa a.Ar,Az a.Ba,As Ab.E a.before,As Ab.E a.later,Aa a.Ap,Aa a.A5,Aa a.A6,Aa a.Au,Aa a.Bm,Aa a.B8,Az a.B2,Aa a.B3,Aa a.Bf,Aa a.Bs,Aa a.Bg,Aa a.By,Aa a.Bw,Aa a.Df,Aa a.Dg,As Ab.E a.whole],72⟩) (by first|rfl|(simp (disch:=first|decide|assumption) only [lk])) rfl) ?_
   refine imp Fp ?_
   iterate 6 refine imp Ai ?_
   refine imp (Cj (show _=some ((Aa (a.later.length:Int)),[]) from H7)) ?_
   refine imp Ai ?_
   exact fun hg=>iF n (0) (a.later.length:Int) a.A7 a.A3 a.Ar a.Ba a.before a.later a.Ap a.A5 a.A6 a.Au a.Bm a.B8 a.B2 a.B3 a.Bf a.Bs a.Bg a.By a.Bw a.Df a.Dg a.whole R hR n _ hg (Bc [(90000,21),(88,88),(0,0)] rfl rfl rfl (oR (oR (oR (A9 (F1 (E:=Ab.E) (id:=21) (l':=a.later) rfl rfl) (oR (oR (oR Bn))))))) (Ao (Aw (cs:=[Aa a.Ap,Aa a.A5,Aa a.A6,Aa a.Au,Aa a.Bm,Aa a.B8]) (ty:=47) rfl (show Am _ 88=_ from (by first|rfl|(simp (disch:=first|decide|assumption) only [lk])))) (Ao (Da (E:=Ab.E) (ty:=47) (l':=a.later) rfl (show Am _ 21=_ from (by first|rfl|(simp (disch:=first|decide|assumption) only [lk])))) (Ao (Aw (cs:=[Az a.A7,Aa a.A3,Aa a.Ar,Az a.Ba,As Ab.E a.before,As Ab.E a.later,Aa a.Ap,Aa a.A5,Aa a.A6,Aa a.Au,Aa a.Bm,Aa a.B8,Az a.B2,Aa a.B3,Aa a.Bf,Aa a.Bs,Aa a.Bg,Aa a.By,Aa a.Bw,Aa a.Df,Aa a.Dg,As Ab.E a.whole]) (ty:=72) (by simp [clean,Av,Al]) (show Am _ 0=_ from (by first|rfl|(simp (disch:=first|decide|assumption) only [lk])))) Bb))))
theorem Ac0 {n k:Nat} {look:Nat→Option B5} {a:Fj} {t:U7} (h:g46 n a=some t):E3 pg KK.gl look k 46 [AV.agg [Az a.A7,Aa a.A3,Aa a.Ar,Az a.Ba,As Ab.E a.before,As Ab.E a.later,Aa a.Ap,Aa a.A5,Aa a.A6,Aa a.Au,Aa a.Bm,Aa a.B8,Az a.B2,Aa a.B3,Aa a.Bf,Aa a.Bs,Aa a.Bg,Aa a.By,Aa a.Bw,Aa a.Df,Aa a.Dg,As Ab.E a.whole]] (.B4 (B7 Ab.E k t.1::([Value.int .i64 t.2]:List Value).map AV.sc)) [(k,C7 Ab.E 47 t.1)]:=
 Mc (by first|rfl|simp [Av,clean,Al,En.Di]) (vY a.A7 a.A3 a.Ar a.Ba (As Ab.E a.before) (As Ab.E a.later) a.Ap a.A5 a.A6 a.Au a.Bm a.B8 a.B2 a.B3 a.Bf a.Bs a.Bg a.By a.Bw a.Df a.Dg (As Ab.E a.whole) _ (wO n a (Hs Ab.E 47 t.1 [Value.int .i64 t.2]) (fun r e u m h=>by rw [e];exact h) h))
theorem sC (n:Nat) (a:Fj) {t:tL} (R:AV→Mem→Prop) (hR:∀r:tL,t=r→∀u m,Hs Ab.E 47 r.1 [Value.int .i64 r.2] u m→R u m):g47 n a=some t→F47 a.A7 a.A3 a.Ar a.Ba (As Ab.E a.before) (As Ab.E a.later) a.Ap a.A5 a.A6 a.Au a.Bm a.B8 a.B2 a.B3 a.Bf a.Bs a.Bg a.By a.Bw a.Df a.Dg (As Ab.E a.whole) R:=by
 unfold g47 F47
 refine imp (Ei rfl) ?_
 refine imp (Ei rfl) ?_
 refine imp (Ei rfl) ?_
 refine At fun f c=> ?_
 refine imp (An (Adv c)) ?_
 refine imp Ai ?_
 refine Aq (fun _=> ?_) (fun _=> ?_)
 ·exact fun hg=>hR _ (Option.some.inj hg).symm _ _ ⟨_,rfl,D4⟩
 ·refine At fun g d=> ?_
  refine imp (An (jX d)) ?_
  refine imp Dk ?_
  iterate 2 refine imp Ai ?_
  refine Aq (fun _=> ?_) (fun _=> ?_)
  ·exact fun hg=>hR _ (Option.some.inj hg).symm _ _ ⟨_,rfl,D4⟩
  ·refine At fun b e=> ?_
   refine imp (An (fH e)) ?_
   refine imp Dk ?_
   iterate 2 refine imp Ai ?_
   refine Aq (fun _=> ?_) (fun _=> ?_)
   ·exact fun hg=>hR _ (Option.some.inj hg).symm _ _ ⟨_,rfl,D4⟩
   ·refine imp (Dv (show _=some ((Ik Ab.E 241 ([(⟨IntKind.wrap .i64 (a.Ap+b.1),a.Df,a.Dg,a.Au,a.Bm,a.B8⟩:Ab)]:List Ab)),[(241,some ⟨Bl Ab.E ([(⟨IntKind.wrap .i64 (a.Ap+b.1),a.Df,a.Dg,a.Au,a.Bm,a.B8⟩:Ab)]:List Ab),47⟩)]) from rfl)) ?_
    exact fun hg=>hR _ (Option.some.inj hg).symm _ _ ⟨_,rfl,Xt (E:=Ab.E) (ty:=47) (l:=([(⟨IntKind.wrap .i64 (a.Ap+b.1),a.Df,a.Dg,a.Au,a.Bm,a.B8⟩:Ab)]:List Ab)) rfl (by first|rfl|(simp (disch:=first|decide|assumption) only [lk]))⟩
theorem Aej {n k:Nat} {look:Nat→Option B5} {a:Fj} {t:tL} (h:g47 n a=some t):E3 pg KK.gl look k 47 [AV.agg [Az a.A7,Aa a.A3,Aa a.Ar,Az a.Ba,As Ab.E a.before,As Ab.E a.later,Aa a.Ap,Aa a.A5,Aa a.A6,Aa a.Au,Aa a.Bm,Aa a.B8,Az a.B2,Aa a.B3,Aa a.Bf,Aa a.Bs,Aa a.Bg,Aa a.By,Aa a.Bw,Aa a.Df,Aa a.Dg,As Ab.E a.whole]] (.B4 (B7 Ab.E k t.1::([Value.int .i64 t.2]:List Value).map AV.sc)) [(k,C7 Ab.E 47 t.1)]:=
 Mc (by first|rfl|simp [Av,clean,Al,En.Di]) (wY a.A7 a.A3 a.Ar a.Ba (As Ab.E a.before) (As Ab.E a.later) a.Ap a.A5 a.A6 a.Au a.Bm a.B8 a.B2 a.B3 a.Bf a.Bs a.Bg a.By a.Bw a.Df a.Dg (As Ab.E a.whole) _ (sC n a (Hs Ab.E 47 t.1 [Value.int .i64 t.2]) (fun r e u m h=>by rw [e];exact h) h))
theorem uH (n:Nat) (a:Fj) {t:w9} (R:AV→Mem→Prop) (hR:∀r:w9,t=r→∀u m,Hs Ab.E 47 r.1 [Value.bool r.2.1,Value.int .i64 r.2.2] u m→R u m):pE n a=some t→F31 a.A7 a.A3 a.Ar a.Ba (As Ab.E a.before) (As Ab.E a.later) a.Ap a.A5 a.A6 a.Au a.Bm a.B8 a.B2 a.B3 a.Bf a.Bs a.Bg a.By a.Bw a.Df a.Dg (As Ab.E a.whole) R:=by
 unfold pE F31
 refine imp (Ei rfl) ?_
 refine imp (Ei rfl) ?_
 refine imp (Ei rfl) ?_
 refine Aq (fun _=> ?_) (fun _=> ?_)
 ·refine At fun b f=> ?_
  refine imp (G5 (show E3 _ _ _ _ _ _ (AV.B4 [B7 Ab.E 10 b.1,Aa b.2]) [(10,C7 Ab.E 47 b.1)] from Aez f)) ?_
  refine imp Dk ?_
  refine imp Ai ?_
  exact fun hg=>hR _ (Option.some.inj hg).symm _ _ ⟨_,rfl,Gr (E:=Ab.E) (ty:=47) (l:=b.1) rfl (by first|rfl|(simp (disch:=first|decide|assumption) only [lk]))⟩
 ·refine iq (Aa (a.later.length:Int)) rfl ?_
  refine imp Ai ?_
  refine Aq (fun _=> ?_) (fun _=> ?_)
  ·exact fun hg=>hR _ (Option.some.inj hg).symm _ _ ⟨_,rfl,D4⟩
  ·refine Aq (fun _=> ?_) (fun _=> ?_)
   ·refine At fun c g=> ?_
    refine imp (G5 (show E3 _ _ _ _ _ _ (AV.B4 [B7 Ab.E 20 c.1,Aa c.2]) [(20,C7 Ab.E 47 c.1)] from Ad7 g)) ?_
    refine imp Dk ?_
    refine imp Ai ?_
    exact fun hg=>hR _ (Option.some.inj hg).symm _ _ ⟨_,rfl,Gr (E:=Ab.E) (ty:=47) (l:=c.1) rfl (by first|rfl|(simp (disch:=first|decide|assumption) only [lk]))⟩
   ·refine Aq (fun _=> ?_) (fun _=> ?_)
    ·refine At fun d h=> ?_
     refine imp (G5 (show E3 _ _ _ _ _ _ (AV.B4 [B7 Ab.E 25 d.1,Aa d.2]) [(25,C7 Ab.E 47 d.1)] from Ac0 h)) ?_
     refine imp Dk ?_
     refine imp Ai ?_
     exact fun hg=>hR _ (Option.some.inj hg).symm _ _ ⟨_,rfl,Gr (E:=Ab.E) (ty:=47) (l:=d.1) rfl (by first|rfl|(simp (disch:=first|decide|assumption) only [lk]))⟩
    ·refine Aq (fun _=> ?_) (fun _=> ?_)
     ·refine At fun e i=> ?_
      refine imp (G5 (show E3 _ _ _ _ _ _ (AV.B4 [B7 Ab.E 30 e.1,Aa e.2]) [(30,C7 Ab.E 47 e.1)] from Aej i)) ?_
      refine imp Dk ?_
      refine imp Ai ?_
      exact fun hg=>hR _ (Option.some.inj hg).symm _ _ ⟨_,rfl,Gr (E:=Ab.E) (ty:=47) (l:=e.1) rfl (by first|rfl|(simp (disch:=first|decide|assumption) only [lk]))⟩
     ·exact fun hg=>hR _ (Option.some.inj hg).symm _ _ ⟨_,rfl,D4⟩
theorem Adb {n k:Nat} {look:Nat→Option B5} {args:List AV} {a:Fj} {t:w9} (h:pE n a=some t) (hs:bD look 6 args [AV.agg [Az a.A7,Aa a.A3,Aa a.Ar,Az a.Ba,As Ab.E a.before,As Ab.E a.later,Aa a.Ap,Aa a.A5,Aa a.A6,Aa a.Au,Aa a.Bm,Aa a.B8,Az a.B2,Aa a.B3,Aa a.Bf,Aa a.Bs,Aa a.Bg,Aa a.By,Aa a.Bw,Aa a.Df,Aa a.Dg,As Ab.E a.whole]]):E3 pg KK.gl look k 31 args (.B4 (B7 Ab.E k t.1::([Value.bool t.2.1,Value.int .i64 t.2.2]:List Value).map AV.sc)) [(k,C7 Ab.E 47 t.1)]:=
 gP (fun _=>rfl) hs (tU a.A7 a.A3 a.Ar a.Ba (As Ab.E a.before) (As Ab.E a.later) a.Ap a.A5 a.A6 a.Au a.Bm a.B8 a.B2 a.B3 a.Bf a.Bs a.Bg a.By a.Bw a.Df a.Dg (As Ab.E a.whole) _ (uH n a (Hs Ab.E 47 t.1 [Value.bool t.2.1,Value.int .i64 t.2.2]) (fun r e u m h=>by rw [e];exact h) h))
end Go.Proofs.YtmhnnmfcjdnlhaaGreatDoor
