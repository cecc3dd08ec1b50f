/- A part. -/
import Derived.Test.YtmhnnmfcjdnlhaaGreatDoorX1E7
set_option linter.unusedVariables false
set_option linter.unusedSimpArgs false
set_option maxRecDepth 100000
set_option maxHeartbeats 4000000
namespace Go.Proofs.YtmhnnmfcjdnlhaaGreatDoor
theorem oU (n:Nat) (a2 aq ar:Int) (a0:List Ab) (fY ai aj ak al am an au:Int) (c d:List Ab) (f:ByteArray) (g h:Int) (i:ByteArray) (k l o p q s:Int) (v:ByteArray) (w x aa ab ad ae af ag:Int) (ah:List Ab) {t:(Int×List Ab×List Ab×ByteArray×Int×Int×ByteArray×Int×Int×Int×Int×Int×Int×ByteArray×Int×Int×Int×Int×Int×Int×Int×Int×List Ab)⊕eH} (R:AV→Mem→Prop) (N0:St→Prop) (hR:∀r:eH,t=(.inr r)→∀u m,C2 ((AV.B4 [As Ab.E r.1,Aa r.2])) u m→R u m) (hN0:∀y:Int×List Ab×List Ab×ByteArray×Int×Int×ByteArray×Int×Int×Int×Int×Int×Int×ByteArray×Int×Int×Int×Int×Int×Int×Int×Int×List Ab,t=(.inl y)→∀s':St,Cl KK 108 0 s' (gT a2 AV.B1 aq ar (As Ab.E a0) fY y.1 [(0,some ⟨[As Ab.E a0],32⟩),(100070,some ⟨[Aa ai,Aa aj,Aa ak,Aa al,Aa am,Aa an],47⟩),(90000,C7 Ab.E 47 y.2.1),(90001,C7 Ab.E 47 y.2.2.1),(100081,some ⟨[Az y.2.2.2.1,Aa y.2.2.2.2.1,Aa y.2.2.2.2.2.1,Az y.2.2.2.2.2.2.1,B7 Ab.E 90000 y.2.1,B7 Ab.E 90001 y.2.2.1,Aa y.2.2.2.2.2.2.2.1,Aa y.2.2.2.2.2.2.2.2.1,Aa y.2.2.2.2.2.2.2.2.2.1,Aa y.2.2.2.2.2.2.2.2.2.2.1,Aa y.2.2.2.2.2.2.2.2.2.2.2.1,Aa y.2.2.2.2.2.2.2.2.2.2.2.2.1,Az y.2.2.2.2.2.2.2.2.2.2.2.2.2.1,Aa y.2.2.2.2.2.2.2.2.2.2.2.2.2.2.1,Aa y.2.2.2.2.2.2.2.2.2.2.2.2.2.2.2.1,Aa y.2.2.2.2.2.2.2.2.2.2.2.2.2.2.2.2.1,Aa y.2.2.2.2.2.2.2.2.2.2.2.2.2.2.2.2.2.1,Aa y.2.2.2.2.2.2.2.2.2.2.2.2.2.2.2.2.2.2.1,Aa y.2.2.2.2.2.2.2.2.2.2.2.2.2.2.2.2.2.2.2.1,Aa y.2.2.2.2.2.2.2.2.2.2.2.2.2.2.2.2.2.2.2.2.1,Aa y.2.2.2.2.2.2.2.2.2.2.2.2.2.2.2.2.2.2.2.2.2.1,As Ab.E y.2.2.2.2.2.2.2.2.2.2.2.2.2.2.2.2.2.2.2.2.2.2],72⟩)])→N0 s'):Vm n a2 aq ar a0 fY ai aj ak al am an au c d f g h i k l o p q s v w x aa ab ad ae af ag ah=some t→vT a2 AV.B1 aq ar (As Ab.E a0) fY au [(0,some ⟨[As Ab.E a0],32⟩),(100070,some ⟨[Aa ai,Aa aj,Aa ak,Aa al,Aa am,Aa an],47⟩),(90000,C7 Ab.E 47 c),(90001,C7 Ab.E 47 d),(100081,some ⟨[Az f,Aa g,Aa h,Az i,B7 Ab.E 90000 c,B7 Ab.E 90001 d,Aa k,Aa l,Aa o,Aa p,Aa q,Aa s,Az v,Aa w,Aa x,Aa aa,Aa ab,Aa ad,Aa ae,Aa af,Aa ag,As Ab.E ah],72⟩)] R N0:=by
 unfold Vm vT
 refine Aq (fun _=> ?_) (fun _=> ?_)
 ·refine At fun a av=> ?_
  refine iq (AV.Dn [Aa a.Ac,Aa a.Ak,Aa a.Aj,Aa a.Ad,Aa a.Ay,Aa a.Br] 0) (C5 (E:=Ab.E) rfl av) ?_
  refine iq (AV.agg [Aa a.Ac,Aa a.Ak,Aa a.Aj,Aa a.Ad,Aa a.Ay,Aa a.Br]) rfl ?_
  refine imp Fp ?_
  iterate 6 refine imp Ai ?_
  refine Aq (fun _=> ?_) (fun _=> ?_)
  ·refine iq (B7 Ab.E 90000 c) (Cp (b:=⟨[Az f,Aa g,Aa h,Az i,B7 Ab.E 90000 c,B7 Ab.E 90001 d,Aa k,Aa l,Aa o,Aa p,Aa q,Aa s,Az v,Aa w,Aa x,Aa aa,Aa ab,Aa ad,Aa ae,Aa af,Aa ag,As Ab.E ah],72⟩) (by first|rfl|(simp (disch:=first|decide|assumption) only [lk])) rfl) ?_
   refine imp (Dv (show _=some ((Ik Ab.E 200013 ([a]:List Ab)),[(200013,some ⟨Bl Ab.E ([a]:List Ab),47⟩)]) from rfl)) ?_
   refine At fun bc aw=> ?_
   refine imp (Dv (show _=some ((B7 Ab.E 200014 (c++([a]:List Ab))),(Jy Ab.E 200014 90000 47 c ([a]:List Ab))) from (Jl (E:=Ab.E) (l':=c) (xs:=([a]:List Ab)) rfl rfl (Fw (E:=Ab.E) (ty:=47) rfl rfl (by first|rfl|(simp (disch:=first|decide|assumption) only [lk]))) xW rfl (fun hne=>Eq.trans (by first|rfl|(simp (disch:=first|decide|assumption) only [lk])) (E0 hne)) aw))) ?_
   refine imp (Hb Bi Bi (Hy _ _) (cs:=[Az f,Aa g,Aa h,Az i,B7 Ab.E 90000 c,B7 Ab.E 90001 d,Aa k,Aa l,Aa o,Aa p,Aa q,Aa s,Az v,Aa w,Aa x,Aa aa,Aa ab,Aa ad,Aa ae,Aa af,Aa ag,As Ab.E ah]) (cs':=[Az f,Aa g,Aa h,Az i,B7 Ab.E 200014 (c++([a]:List Ab)),B7 Ab.E 90001 d,Aa k,Aa l,Aa o,Aa p,Aa q,Aa s,Az v,Aa w,Aa x,Aa aa,Aa ab,Aa ad,Aa ae,Aa af,Aa ag,As Ab.E ah]) (ty:=72) (by first|rfl|(simp (disch:=first|decide|assumption) only [lk])) rfl rfl) ?_
   refine iq (Aa a.Ac) (Cp (b:=⟨[Aa a.Ac,Aa a.Ak,Aa a.Aj,Aa a.Ad,Aa a.Ay,Aa a.Br],47⟩) (by first|rfl|(simp (disch:=first|decide|assumption) only [lk])) rfl) ?_
   refine imp Ai ?_
   refine Aq (fun _=> ?_) (fun _=> ?_)
   ·refine iq (B7 Ab.E 90001 d) (Cp (b:=⟨[Az f,Aa g,Aa h,Az i,B7 Ab.E 200014 (c++([a]:List Ab)),B7 Ab.E 90001 d,Aa k,Aa l,Aa o,Aa p,Aa q,Aa s,Az v,Aa w,Aa x,Aa aa,Aa ab,Aa ad,Aa ae,Aa af,Aa ag,As Ab.E ah],72⟩) (by first|rfl|(simp (disch:=first|decide|assumption) only [lk])) rfl) ?_
    refine iq (AV.agg [Aa a.Ac,Aa a.Ak,Aa a.Aj,Aa a.Ad,Aa a.Ay,Aa a.Br]) (Ef (b:=⟨[Aa a.Ac,Aa a.Ak,Aa a.Aj,Aa a.Ad,Aa a.Ay,Aa a.Br],47⟩) (by first|rfl|(simp (disch:=first|decide|assumption) only [lk])) rfl) ?_
    refine imp Fp ?_
    iterate 6 refine imp Ai ?_
    refine imp (Dv (show _=some ((Ik Ab.E 200025 ([a]:List Ab)),[(200025,some ⟨Bl Ab.E ([a]:List Ab),47⟩)]) from rfl)) ?_
    refine At fun bd ax=> ?_
    refine imp (Dv (show _=some ((B7 Ab.E 200026 (d++([a]:List Ab))),(Jy Ab.E 200026 90001 47 d ([a]:List Ab))) from (Jl (E:=Ab.E) (l':=d) (xs:=([a]:List Ab)) rfl rfl (Fw (E:=Ab.E) (ty:=47) rfl rfl (by first|rfl|(simp (disch:=first|decide|assumption) only [lk]))) xW rfl (fun hne=>Eq.trans (by first|rfl|(simp (disch:=first|decide|assumption) only [lk])) (E0 hne)) ax))) ?_
    refine imp (Hb Bi Bi (Hy _ _) (cs:=[Az f,Aa g,Aa h,Az i,B7 Ab.E 200014 (c++([a]:List Ab)),B7 Ab.E 90001 d,Aa k,Aa l,Aa o,Aa p,Aa q,Aa s,Az v,Aa w,Aa x,Aa aa,Aa ab,Aa ad,Aa ae,Aa af,Aa ag,As Ab.E ah]) (cs':=[Az f,Aa g,Aa h,Az i,B7 Ab.E 200014 (c++([a]:List Ab)),B7 Ab.E 200026 (d++([a]:List Ab)),Aa k,Aa l,Aa o,Aa p,Aa q,Aa s,Az v,Aa w,Aa x,Aa aa,Aa ab,Aa ad,Aa ae,Aa af,Aa ag,As Ab.E ah]) (ty:=72) (by first|rfl|(simp (disch:=first|decide|assumption) only [lk])) rfl rfl) ?_
    exact fun hg=>hN0 _ (Option.some.inj hg).symm _ (Bc [(0,0),(100070,100070),(90000,200014),(90001,200026),(100081,100081)] rfl rfl rfl (oR (oR (oR (oR (oR (oR (oR (A9 (Bz (E:=Ab.E) _ false) (oR (oR Bn)))))))))) (Ao (Aw (cs:=[As Ab.E a0]) (ty:=32) (by simp [clean,Av,Al]) (show Am _ 0=_ from (by first|rfl|(simp (disch:=first|decide|assumption) only [lk])))) (Ao (Aw (cs:=[Aa ai,Aa aj,Aa ak,Aa al,Aa am,Aa an]) (ty:=47) rfl (show Am _ 100070=_ from (by first|rfl|(simp (disch:=first|decide|assumption) only [lk])))) (Ao (Da (E:=Ab.E) (ty:=47) (l':=(c++([a]:List Ab))) rfl (show Am _ 200014=_ from (by first|rfl|(simp (disch:=first|decide|assumption) only [lk])))) (Ao (Da (E:=Ab.E) (ty:=47) (l':=(d++([a]:List Ab))) rfl (show Am _ 200026=_ from (by first|rfl|(simp (disch:=first|decide|assumption) only [lk])))) (Ao (C4 (us:=[Az f,Aa g,Aa h,Az i,B7 Ab.E 200014 (c++([a]:List Ab)),B7 Ab.E 200026 (d++([a]:List Ab)),Aa k,Aa l,Aa o,Aa p,Aa q,Aa s,Az v,Aa w,Aa x,Aa aa,Aa ab,Aa ad,Aa ae,Aa af,Aa ag,As Ab.E ah]) (ty:=72) (Ec (Ec (Ec (Ec (Co (Es (E:=Ab.E) (j:=90000) (id:=200014) (l':=(c++([a]:List Ab))) rfl rfl) (Co (Es (E:=Ab.E) (j:=90001) (id:=200026) (l':=(d++([a]:List Ab))) rfl rfl) (Ec (Ec (Ec (Ec (Ec (Ec (Ec (Ec (Ec (Ec (Ec (Ec (Ec (Ec (Ec (Co (Ln (Gg _ (by simp [clean,Av,Al])).symm) De)))))))))))))))))))))) (show Am _ 100081=_ from (by first|rfl|(simp (disch:=first|decide|assumption) only [lk])))) Bb))))))
   ·exact fun hg=>hN0 _ (Option.some.inj hg).symm _ (Bc [(0,0),(100070,100070),(90000,200014),(90001,90001),(100081,100081)] rfl rfl rfl (oR (oR (oR (oR (oR (oR (oR (A9 (Bz (E:=Ab.E) _ false) (oR (oR Bn)))))))))) (Ao (Aw (cs:=[As Ab.E a0]) (ty:=32) (by simp [clean,Av,Al]) (show Am _ 0=_ from (by first|rfl|(simp (disch:=first|decide|assumption) only [lk])))) (Ao (Aw (cs:=[Aa ai,Aa aj,Aa ak,Aa al,Aa am,Aa an]) (ty:=47) rfl (show Am _ 100070=_ from (by first|rfl|(simp (disch:=first|decide|assumption) only [lk])))) (Ao (Da (E:=Ab.E) (ty:=47) (l':=(c++([a]:List Ab))) rfl (show Am _ 200014=_ from (by first|rfl|(simp (disch:=first|decide|assumption) only [lk])))) (Ao (Da (E:=Ab.E) (ty:=47) (l':=d) rfl (show Am _ 90001=_ from (by first|rfl|(simp (disch:=first|decide|assumption) only [lk])))) (Ao (C4 (us:=[Az f,Aa g,Aa h,Az i,B7 Ab.E 200014 (c++([a]:List Ab)),B7 Ab.E 90001 d,Aa k,Aa l,Aa o,Aa p,Aa q,Aa s,Az v,Aa w,Aa x,Aa aa,Aa ab,Aa ad,Aa ae,Aa af,Aa ag,As Ab.E ah]) (ty:=72) (Ec (Ec (Ec (Ec (Co (Es (E:=Ab.E) (j:=90000) (id:=200014) (l':=(c++([a]:List Ab))) rfl rfl) (Co (Es (E:=Ab.E) (j:=90001) (id:=90001) (l':=d) rfl rfl) (Ec (Ec (Ec (Ec (Ec (Ec (Ec (Ec (Ec (Ec (Ec (Ec (Ec (Ec (Ec (Co (Ln (Gg _ (by simp [clean,Av,Al])).symm) De)))))))))))))))))))))) (show Am _ 100081=_ from (by first|rfl|(simp (disch:=first|decide|assumption) only [lk])))) Bb))))))
  ·refine Aq (fun _=> ?_) (fun _=> ?_)
   ·refine iq (B7 Ab.E 90001 d) (Cp (b:=⟨[Az f,Aa g,Aa h,Az i,B7 Ab.E 90000 c,B7 Ab.E 90001 d,Aa k,Aa l,Aa o,Aa p,Aa q,Aa s,Az v,Aa w,Aa x,Aa aa,Aa ab,Aa ad,Aa ae,Aa af,Aa ag,As Ab.E ah],72⟩) (by first|rfl|(simp (disch:=first|decide|assumption) only [lk])) rfl) ?_
    refine imp (Dv (show _=some ((Ik Ab.E 200018 ([a]:List Ab)),[(200018,some ⟨Bl Ab.E ([a]:List Ab),47⟩)]) from rfl)) ?_
    refine At fun be ay=> ?_
    refine imp (Dv (show _=some ((B7 Ab.E 200019 (d++([a]:List Ab))),(Jy Ab.E 200019 90001 47 d ([a]:List Ab))) from (Jl (E:=Ab.E) (l':=d) (xs:=([a]:List Ab)) rfl rfl (Fw (E:=Ab.E) (ty:=47) rfl rfl (by first|rfl|(simp (disch:=first|decide|assumption) only [lk]))) xW rfl (fun hne=>Eq.trans (by first|rfl|(simp (disch:=first|decide|assumption) only [lk])) (E0 hne)) ay))) ?_
    refine imp (Hb Bi Bi (Hy _ _) (cs:=[Az f,Aa g,Aa h,Az i,B7 Ab.E 90000 c,B7 Ab.E 90001 d,Aa k,Aa l,Aa o,Aa p,Aa q,Aa s,Az v,Aa w,Aa x,Aa aa,Aa ab,Aa ad,Aa ae,Aa af,Aa ag,As Ab.E ah]) (cs':=[Az f,Aa g,Aa h,Az i,B7 Ab.E 90000 c,B7 Ab.E 200019 (d++([a]:List Ab)),Aa k,Aa l,Aa o,Aa p,Aa q,Aa s,Az v,Aa w,Aa x,Aa aa,Aa ab,Aa ad,Aa ae,Aa af,Aa ag,As Ab.E ah]) (ty:=72) (by first|rfl|(simp (disch:=first|decide|assumption) only [lk])) rfl rfl) ?_
    exact fun hg=>hN0 _ (Option.some.inj hg).symm _ (Bc [(0,0),(100070,100070),(90000,90000),(90001,200019),(100081,100081)] rfl rfl rfl (oR (oR (oR (oR (oR (oR (oR (A9 (Bz (E:=Ab.E) _ false) (oR (oR Bn)))))))))) (Ao (Aw (cs:=[As Ab.E a0]) (ty:=32) (by simp [clean,Av,Al]) (show Am _ 0=_ from (by first|rfl|(simp (disch:=first|decide|assumption) only [lk])))) (Ao (Aw (cs:=[Aa ai,Aa aj,Aa ak,Aa al,Aa am,Aa an]) (ty:=47) rfl (show Am _ 100070=_ from (by first|rfl|(simp (disch:=first|decide|assumption) only [lk])))) (Ao (Da (E:=Ab.E) (ty:=47) (l':=c) rfl (show Am _ 90000=_ from (by first|rfl|(simp (disch:=first|decide|assumption) only [lk])))) (Ao (Da (E:=Ab.E) (ty:=47) (l':=(d++([a]:List Ab))) rfl (show Am _ 200019=_ from (by first|rfl|(simp (disch:=first|decide|assumption) only [lk])))) (Ao (C4 (us:=[Az f,Aa g,Aa h,Az i,B7 Ab.E 90000 c,B7 Ab.E 200019 (d++([a]:List Ab)),Aa k,Aa l,Aa o,Aa p,Aa q,Aa s,Az v,Aa w,Aa x,Aa aa,Aa ab,Aa ad,Aa ae,Aa af,Aa ag,As Ab.E ah]) (ty:=72) (Ec (Ec (Ec (Ec (Co (Es (E:=Ab.E) (j:=90000) (id:=90000) (l':=c) rfl rfl) (Co (Es (E:=Ab.E) (j:=90001) (id:=200019) (l':=(d++([a]:List Ab))) rfl rfl) (Ec (Ec (Ec (Ec (Ec (Ec (Ec (Ec (Ec (Ec (Ec (Ec (Ec (Ec (Ec (Co (Ln (Gg _ (by simp [clean,Av,Al])).symm) De)))))))))))))))))))))) (show Am _ 100081=_ from (by first|rfl|(simp (disch:=first|decide|assumption) only [lk])))) Bb))))))
   ·exact fun hg=>hN0 _ (Option.some.inj hg).symm _ (Bc [(0,0),(100070,100070),(90000,90000),(90001,90001),(100081,100081)] rfl rfl rfl (oR (oR (oR (oR (oR (oR (oR (A9 (Bz (E:=Ab.E) _ false) (oR (oR Bn)))))))))) (Ao (Aw (cs:=[As Ab.E a0]) (ty:=32) (by simp [clean,Av,Al]) (show Am _ 0=_ from (by first|rfl|(simp (disch:=first|decide|assumption) only [lk])))) (Ao (Aw (cs:=[Aa ai,Aa aj,Aa ak,Aa al,Aa am,Aa an]) (ty:=47) rfl (show Am _ 100070=_ from (by first|rfl|(simp (disch:=first|decide|assumption) only [lk])))) (Ao (Da (E:=Ab.E) (ty:=47) (l':=c) rfl (show Am _ 90000=_ from (by first|rfl|(simp (disch:=first|decide|assumption) only [lk])))) (Ao (Da (E:=Ab.E) (ty:=47) (l':=d) rfl (show Am _ 90001=_ from (by first|rfl|(simp (disch:=first|decide|assumption) only [lk])))) (Ao (C4 (us:=[Az f,Aa g,Aa h,Az i,B7 Ab.E 90000 c,B7 Ab.E 90001 d,Aa k,Aa l,Aa o,Aa p,Aa q,Aa s,Az v,Aa w,Aa x,Aa aa,Aa ab,Aa ad,Aa ae,Aa af,Aa ag,As Ab.E ah]) (ty:=72) (Ec (Ec (Ec (Ec (Co (Es (E:=Ab.E) (j:=90000) (id:=90000) (l':=c) rfl rfl) (Co (Es (E:=Ab.E) (j:=90001) (id:=90001) (l':=d) rfl rfl) (Ec (Ec (Ec (Ec (Ec (Ec (Ec (Ec (Ec (Ec (Ec (Ec (Ec (Ec (Ec (Co (Ln (Gg _ (by simp [clean,Av,Al])).symm) De)))))))))))))))))))))) (show Am _ 100081=_ from (by first|rfl|(simp (disch:=first|decide|assumption) only [lk])))) Bb))))))
 ·refine iq (AV.agg [Az f,Aa g,Aa h,Az i,B7 Ab.E 90000 c,B7 Ab.E 90001 d,Aa k,Aa l,Aa o,Aa p,Aa q,Aa s,Az v,Aa w,Aa x,Aa aa,Aa ab,Aa ad,Aa ae,Aa af,Aa ag,As Ab.E ah]) (Ef (b:=⟨[Az f,Aa g,Aa h,Az i,B7 Ab.E 90000 c,B7 Ab.E 90001 d,Aa k,Aa l,Aa o,Aa p,Aa q,Aa s,Az v,Aa w,Aa x,Aa aa,Aa ab,Aa ad,Aa ae,Aa af,Aa ag,As Ab.E ah],72⟩) (by first|rfl|(simp (disch:=first|decide|assumption) only [lk])) rfl) ?_
  refine imp dC ?_
  refine imp Dh ?_
  iterate 2 refine imp Ai ?_
  refine imp Dh ?_
  iterate 6 refine imp Ai ?_
  refine imp Dh ?_
  iterate 8 refine imp Ai ?_
  refine At fun ao az=> ?_
  refine imp (G5 (show E3 _ _ _ _ _ _ (AV.B4 [B7 Ab.E 200002 ao.1,Ah ao.2.1,Aa ao.2.2]) [(200002,C7 Ab.E 47 ao.1)] from Adb az (Cb (l7 _ (Cb (El _ _) (Cb (El _ _) (Cb (El _ _) (Cb (El _ _) (Cb (R2 (E:=Ab.E) (ty:=47) (l':=c) _ Ab.nf rfl (by first|rfl|(simp (disch:=first|decide|assumption) only [lk]))) (Cb (R2 (E:=Ab.E) (ty:=47) (l':=d) _ Ab.nf rfl (by first|rfl|(simp (disch:=first|decide|assumption) only [lk]))) (Cb (El _ _) (Cb (El _ _) (Cb (El _ _) (Cb (El _ _) (Cb (El _ _) (Cb (El _ _) (Cb (El _ _) (Cb (El _ _) (Cb (El _ _) (Cb (El _ _) (Cb (El _ _) (Cb (El _ _) (Cb (El _ _) (Cb (El _ _) (Cb (El _ _) (Cb (kA (E:=Ab.E) _ _ false) Fh))))))))))))))))))))))) Fh))) ?_
  refine imp aF ?_
  refine imp Eh ?_
  refine imp Ai ?_
  refine Aq (fun _=> ?_) (fun _=> ?_)
  ·exact fun hg=>Dp rfl (hR _ (Option.some.inj hg).symm) (Ck (Fu (E:=Ab.E) _) (fS Bx))
  ·refine Aq (fun _=> ?_) (fun _=> ?_)
   ·refine iq (As Ab.E a0) (Cp (b:=⟨[As Ab.E a0],32⟩) (by first|rfl|(simp (disch:=first|decide|assumption) only [lk])) rfl) ?_
    refine At fun bf ba=> ?_
    refine imp (G5 (show E3 _ _ _ _ _ _ (B7 Ab.E 200079 a0) [(200079,C7 Ab.E 47 a0)] from Nn ba)) ?_
    exact fun hg=>Dp rfl (hR _ (Option.some.inj hg).symm) (Ck (Wv (E:=Ab.E) (ty:=47) (l':=a0) _ rfl (by first|rfl|(simp (disch:=first|decide|assumption) only [lk]))) (fS Bx))
   ·refine iq (B7 Ab.E 90000 c) (Cp (b:=⟨[Az f,Aa g,Aa h,Az i,B7 Ab.E 90000 c,B7 Ab.E 90001 d,Aa k,Aa l,Aa o,Aa p,Aa q,Aa s,Az v,Aa w,Aa x,Aa aa,Aa ab,Aa ad,Aa ae,Aa af,Aa ag,As Ab.E ah],72⟩) (by first|rfl|(simp (disch:=first|decide|assumption) only [lk])) rfl) ?_
    refine iq (AV.agg [Aa ai,Aa aj,Aa ak,Aa al,Aa am,Aa an]) (Ef (b:=⟨[Aa ai,Aa aj,Aa ak,Aa al,Aa am,Aa an],47⟩) (by first|rfl|(simp (disch:=first|decide|assumption) only [lk])) rfl) ?_
    refine imp Fp ?_
    iterate 6 refine imp Ai ?_
    refine imp (Dv (show _=some ((Ik Ab.E 200081 ([(⟨ai,aj,ak,al,am,an⟩:Ab)]:List Ab)),[(200081,some ⟨Bl Ab.E ([(⟨ai,aj,ak,al,am,an⟩:Ab)]:List Ab),47⟩)]) from rfl)) ?_
    refine imp (Dv (show _=some ((AV.sl 200083 0 1 3 3 true),[(200083,some ⟨[B7 Ab.E 90000 c,Ik Ab.E 200081 ([(⟨ai,aj,ak,al,am,an⟩:Ab)]:List Ab),B7 Ab.E 200002 ao.1],32⟩)]) from (Adf (z:=.B1) (e:=32) Rc rfl Rc))) ?_
    refine At fun ap bb=> ?_
    refine imp (G5 (show E3 _ _ _ _ _ _ (B7 Ab.E 200084 ap) [(200084,C7 Ab.E 47 ap)] from Abb bb (Cb (u0 (E:=Ab.E) (L:=([c,([(⟨ai,aj,ak,al,am,an⟩:Ab)]:List Ab),ao.1]:List (List Ab))) _ (ty:=32) (us:=[B7 Ab.E 90000 c,Ik Ab.E 200081 ([(⟨ai,aj,ak,al,am,an⟩:Ab)]:List Ab),B7 Ab.E 200002 ao.1]) (by first|rfl|(simp (disch:=first|decide|assumption) only [lk])) (Cb (R2 (E:=Ab.E) (ty:=47) (l':=c) _ Ab.nf rfl (by first|rfl|(simp (disch:=first|decide|assumption) only [lk]))) (Cb (oH (E:=Ab.E) (ty:=47) (l':=([(⟨ai,aj,ak,al,am,an⟩:Ab)]:List Ab)) _ Ab.nf rfl (by first|rfl|(simp (disch:=first|decide|assumption) only [lk]))) (Cb (R2 (E:=Ab.E) (ty:=47) (l':=ao.1) _ Ab.nf rfl (by first|rfl|(simp (disch:=first|decide|assumption) only [lk]))) Fh))) rfl rfl rfl) Fh))) ?_
    refine imp (Cj (show _=some ((Aa (ap.length:Int)),[]) from H7)) ?_
    refine imp Ai ?_
    refine Aq (fun _=> ?_) (fun _=> ?_)
    ·exact fun hg=>Dp rfl (hR _ (Option.some.inj hg).symm) (Ck (Fu (E:=Ab.E) _) (fS Bx))
    ·exact fun hg=>Dp rfl (hR _ (Option.some.inj hg).symm) (Ck (Wv (E:=Ab.E) (ty:=47) (l':=ap) _ rfl (by first|rfl|(simp (disch:=first|decide|assumption) only [lk]))) (fS Bx))
theorem u6 (n:Nat) (b c d:Int) (a:List Ab) (fY f g i j l o:Int) {t:eH} (R:AV→Mem→Prop) (hR:∀r:eH,t=r→∀u m,C2 ((AV.B4 [As Ab.E r.1,Aa r.2])) u m→R u m) (k:Nat) (x:Int×List Ab×List Ab×ByteArray×Int×Int×ByteArray×Int×Int×Int×Int×Int×Int×ByteArray×Int×Int×Int×Int×Int×Int×Int×Int×List Ab) (hx:Bt (fun y:Int×List Ab×List Ab×ByteArray×Int×Int×ByteArray×Int×Int×Int×Int×Int×Int×ByteArray×Int×Int×Int×Int×Int×Int×Int×Int×List Ab=>Vm n b c d a fY f g i j l o y.1 y.2.1 y.2.2.1 y.2.2.2.1 y.2.2.2.2.1 y.2.2.2.2.2.1 y.2.2.2.2.2.2.1 y.2.2.2.2.2.2.2.1 y.2.2.2.2.2.2.2.2.1 y.2.2.2.2.2.2.2.2.2.1 y.2.2.2.2.2.2.2.2.2.2.1 y.2.2.2.2.2.2.2.2.2.2.2.1 y.2.2.2.2.2.2.2.2.2.2.2.2.1 y.2.2.2.2.2.2.2.2.2.2.2.2.2.1 y.2.2.2.2.2.2.2.2.2.2.2.2.2.2.1 y.2.2.2.2.2.2.2.2.2.2.2.2.2.2.2.1 y.2.2.2.2.2.2.2.2.2.2.2.2.2.2.2.2.1 y.2.2.2.2.2.2.2.2.2.2.2.2.2.2.2.2.2.1 y.2.2.2.2.2.2.2.2.2.2.2.2.2.2.2.2.2.2.1 y.2.2.2.2.2.2.2.2.2.2.2.2.2.2.2.2.2.2.2.1 y.2.2.2.2.2.2.2.2.2.2.2.2.2.2.2.2.2.2.2.2.1 y.2.2.2.2.2.2.2.2.2.2.2.2.2.2.2.2.2.2.2.2.2.1 y.2.2.2.2.2.2.2.2.2.2.2.2.2.2.2.2.2.2.2.2.2.2) k x=some t) {s:St} (hw:Cl KK 108 0 s (gT b AV.B1 c d (As Ab.E a) fY x.1 [(0,some ⟨[As Ab.E a],32⟩),(100070,some ⟨[Aa f,Aa g,Aa i,Aa j,Aa l,Aa o],47⟩),(90000,C7 Ab.E 47 x.2.1),(90001,C7 Ab.E 47 x.2.2.1),(100081,some ⟨[Az x.2.2.2.1,Aa x.2.2.2.2.1,Aa x.2.2.2.2.2.1,Az x.2.2.2.2.2.2.1,B7 Ab.E 90000 x.2.1,B7 Ab.E 90001 x.2.2.1,Aa x.2.2.2.2.2.2.2.1,Aa x.2.2.2.2.2.2.2.2.1,Aa x.2.2.2.2.2.2.2.2.2.1,Aa x.2.2.2.2.2.2.2.2.2.2.1,Aa x.2.2.2.2.2.2.2.2.2.2.2.1,Aa x.2.2.2.2.2.2.2.2.2.2.2.2.1,Az x.2.2.2.2.2.2.2.2.2.2.2.2.2.1,Aa x.2.2.2.2.2.2.2.2.2.2.2.2.2.2.1,Aa x.2.2.2.2.2.2.2.2.2.2.2.2.2.2.2.1,Aa x.2.2.2.2.2.2.2.2.2.2.2.2.2.2.2.2.1,Aa x.2.2.2.2.2.2.2.2.2.2.2.2.2.2.2.2.2.1,Aa x.2.2.2.2.2.2.2.2.2.2.2.2.2.2.2.2.2.2.1,Aa x.2.2.2.2.2.2.2.2.2.2.2.2.2.2.2.2.2.2.2.1,Aa x.2.2.2.2.2.2.2.2.2.2.2.2.2.2.2.2.2.2.2.2.1,Aa x.2.2.2.2.2.2.2.2.2.2.2.2.2.2.2.2.2.2.2.2.2.1,As Ab.E x.2.2.2.2.2.2.2.2.2.2.2.2.2.2.2.2.2.2.2.2.2.2],72⟩)])):C6 pg KK 108 0 (.loop xA) s (sG R):=
 Ahc R (σ:=Nat×(Int×List Ab×List Ab×ByteArray×Int×Int×ByteArray×Int×Int×Int×Int×Int×Int×ByteArray×Int×Int×Int×Int×Int×Int×Int×Int×List Ab)) (fun z=>Bt (fun y:Int×List Ab×List Ab×ByteArray×Int×Int×ByteArray×Int×Int×Int×Int×Int×Int×ByteArray×Int×Int×Int×Int×Int×Int×Int×Int×List Ab=>Vm n b c d a fY f g i j l o y.1 y.2.1 y.2.2.1 y.2.2.2.1 y.2.2.2.2.1 y.2.2.2.2.2.1 y.2.2.2.2.2.2.1 y.2.2.2.2.2.2.2.1 y.2.2.2.2.2.2.2.2.1 y.2.2.2.2.2.2.2.2.2.1 y.2.2.2.2.2.2.2.2.2.2.1 y.2.2.2.2.2.2.2.2.2.2.2.1 y.2.2.2.2.2.2.2.2.2.2.2.2.1 y.2.2.2.2.2.2.2.2.2.2.2.2.2.1 y.2.2.2.2.2.2.2.2.2.2.2.2.2.2.1 y.2.2.2.2.2.2.2.2.2.2.2.2.2.2.2.1 y.2.2.2.2.2.2.2.2.2.2.2.2.2.2.2.2.1 y.2.2.2.2.2.2.2.2.2.2.2.2.2.2.2.2.2.1 y.2.2.2.2.2.2.2.2.2.2.2.2.2.2.2.2.2.2.1 y.2.2.2.2.2.2.2.2.2.2.2.2.2.2.2.2.2.2.2.1 y.2.2.2.2.2.2.2.2.2.2.2.2.2.2.2.2.2.2.2.2.1 y.2.2.2.2.2.2.2.2.2.2.2.2.2.2.2.2.2.2.2.2.2.1 y.2.2.2.2.2.2.2.2.2.2.2.2.2.2.2.2.2.2.2.2.2.2) z.1 z.2=some t) (fun z=>b) (fun z=>AV.B1) (fun z=>c) (fun z=>d) (fun z=>(As Ab.E a)) (fun z=>fY) (fun z=>z.2.1) (fun z=>[(0,some ⟨[As Ab.E a],32⟩),(100070,some ⟨[Aa f,Aa g,Aa i,Aa j,Aa l,Aa o],47⟩),(90000,C7 Ab.E 47 z.2.2.1),(90001,C7 Ab.E 47 z.2.2.2.1),(100081,some ⟨[Az z.2.2.2.2.1,Aa z.2.2.2.2.2.1,Aa z.2.2.2.2.2.2.1,Az z.2.2.2.2.2.2.2.1,B7 Ab.E 90000 z.2.2.1,B7 Ab.E 90001 z.2.2.2.1,Aa z.2.2.2.2.2.2.2.2.1,Aa z.2.2.2.2.2.2.2.2.2.1,Aa z.2.2.2.2.2.2.2.2.2.2.1,Aa z.2.2.2.2.2.2.2.2.2.2.2.1,Aa z.2.2.2.2.2.2.2.2.2.2.2.2.1,Aa z.2.2.2.2.2.2.2.2.2.2.2.2.2.1,Az z.2.2.2.2.2.2.2.2.2.2.2.2.2.2.1,Aa z.2.2.2.2.2.2.2.2.2.2.2.2.2.2.2.1,Aa z.2.2.2.2.2.2.2.2.2.2.2.2.2.2.2.2.1,Aa z.2.2.2.2.2.2.2.2.2.2.2.2.2.2.2.2.2.1,Aa z.2.2.2.2.2.2.2.2.2.2.2.2.2.2.2.2.2.2.1,Aa z.2.2.2.2.2.2.2.2.2.2.2.2.2.2.2.2.2.2.2.1,Aa z.2.2.2.2.2.2.2.2.2.2.2.2.2.2.2.2.2.2.2.2.1,Aa z.2.2.2.2.2.2.2.2.2.2.2.2.2.2.2.2.2.2.2.2.2.1,Aa z.2.2.2.2.2.2.2.2.2.2.2.2.2.2.2.2.2.2.2.2.2.2.1,As Ab.E z.2.2.2.2.2.2.2.2.2.2.2.2.2.2.2.2.2.2.2.2.2.2.2],72⟩)]) (fun z=>z.1) (by
  rintro ⟨k,y⟩ h
  cases k with
  |zero=>exact (Cz h).elim
  |succ k=>
   obtain ⟨u,p,q,v⟩:=Cv h
   exact oU n b c d a fY f g i j l o y.1 y.2.1 y.2.2.1 y.2.2.2.1 y.2.2.2.2.1 y.2.2.2.2.2.1 y.2.2.2.2.2.2.1 y.2.2.2.2.2.2.2.1 y.2.2.2.2.2.2.2.2.1 y.2.2.2.2.2.2.2.2.2.1 y.2.2.2.2.2.2.2.2.2.2.1 y.2.2.2.2.2.2.2.2.2.2.2.1 y.2.2.2.2.2.2.2.2.2.2.2.2.1 y.2.2.2.2.2.2.2.2.2.2.2.2.2.1 y.2.2.2.2.2.2.2.2.2.2.2.2.2.2.1 y.2.2.2.2.2.2.2.2.2.2.2.2.2.2.2.1 y.2.2.2.2.2.2.2.2.2.2.2.2.2.2.2.2.1 y.2.2.2.2.2.2.2.2.2.2.2.2.2.2.2.2.2.1 y.2.2.2.2.2.2.2.2.2.2.2.2.2.2.2.2.2.2.1 y.2.2.2.2.2.2.2.2.2.2.2.2.2.2.2.2.2.2.2.1 y.2.2.2.2.2.2.2.2.2.2.2.2.2.2.2.2.2.2.2.2.1 y.2.2.2.2.2.2.2.2.2.2.2.2.2.2.2.2.2.2.2.2.2.1 y.2.2.2.2.2.2.2.2.2.2.2.2.2.2.2.2.2.2.2.2.2.2 R _ (fun r e=>hR r (v _ e).symm) (fun y' e s' hw=>⟨(k,y'),q _ e,Nat.lt_succ_self k,hw⟩) p) (k,x) hx hw
theorem tX (n:Nat) (z aa Qh:Int) (c:List Ab) (d:ByteArray) (f g:Int) (i k:ByteArray) (l o p q s v w x ab:Int) {t:(Int)⊕eH} (R:AV→Mem→Prop) (N0:St→Prop) (hR:∀r:eH,t=(.inr r)→∀u m,C2 ((AV.B4 [As Ab.E r.1,Aa r.2])) u m→R u m) (hN0:∀y:Int,t=(.inl y)→∀s':St,Cl KK 108 0 s' (gU z AV.B1 aa (AV.sl 10 0 1 4 4 true) Qh y [(0,some ⟨[As Ab.E c],32⟩),(1,some ⟨[Az d,Aa f,Aa g,Az i],30⟩),(2,some ⟨[Az k,Aa l,Aa o,Aa p,Aa q,Aa s,Aa v],26⟩),(3,some ⟨[Aa w,Aa x],42⟩),(10,some ⟨[AV.fn 26 [AV.ptr 0 0],AV.fn 27 [AV.ptr 1 0],AV.fn 28 [AV.ptr 2 0],AV.fn 29 [AV.ptr 3 0]],68⟩)])→N0 s'):Lq n z aa Qh c d f g i k l o p q s v w x ab=some t→qB z AV.B1 aa (AV.sl 10 0 1 4 4 true) Qh ab [(0,some ⟨[As Ab.E c],32⟩),(1,some ⟨[Az d,Aa f,Aa g,Az i],30⟩),(2,some ⟨[Az k,Aa l,Aa o,Aa p,Aa q,Aa s,Aa v],26⟩),(3,some ⟨[Aa w,Aa x],42⟩),(10,some ⟨[AV.fn 26 [AV.ptr 0 0],AV.fn 27 [AV.ptr 1 0],AV.fn 28 [AV.ptr 2 0],AV.fn 29 [AV.ptr 3 0]],68⟩)] R N0:=by
 unfold Lq qB
 refine Aq (fun _=> ?_) (fun _=> ?_)
 ·refine Wf (fun e778=> ?_) (fun _=> ?_)
  ·refine imp (Cj (show _=some ((AV.ptr 10 0),[]) from W0 (n:=4) (j:=0) e778 (by decide))) ?_
   refine iq (AV.fn 26 [AV.ptr 0 0]) (Cp (b:=⟨[AV.fn 26 [AV.ptr 0 0],AV.fn 27 [AV.ptr 1 0],AV.fn 28 [AV.ptr 2 0],AV.fn 29 [AV.ptr 3 0]],68⟩) (by first|rfl|(simp (disch:=first|decide|assumption) only [lk])) rfl) ?_
   refine At fun ai ad=> ?_
   refine imp I9 ?_
   refine imp (Nr rfl) ?_
   refine imp (Jb (Hu (Cb (Q8 _ (ty:=32) (us:=[As Ab.E c]) (by first|rfl|(simp (disch:=first|decide|assumption) only [lk])) (Cb (kA (E:=Ab.E) _ _ false) Fh)) Fh) (Afs ad) rfl)) ?_
   refine imp Ai ?_
   refine Aq (fun _=> ?_) (fun _=> ?_)
   ·exact fun hg=>Dp rfl (hR _ (Option.some.inj hg).symm) (Ck (Fu (E:=Ab.E) _) (fS Bx))
   ·exact fun hg=>hN0 _ (Option.some.inj hg).symm _ (Bc [(0,0),(1,1),(2,2),(3,3),(10,10)] rfl rfl rfl (oR (oR (oR (oR (oR (oR (oR (oR (oR (oR Bn)))))))))) (Ao (Aw (cs:=[As Ab.E c]) (ty:=32) (by simp [clean,Av,Al]) (show Am _ 0=_ from (by first|rfl|(simp (disch:=first|decide|assumption) only [lk])))) (Ao (Aw (cs:=[Az d,Aa f,Aa g,Az i]) (ty:=30) rfl (show Am _ 1=_ from (by first|rfl|(simp (disch:=first|decide|assumption) only [lk])))) (Ao (Aw (cs:=[Az k,Aa l,Aa o,Aa p,Aa q,Aa s,Aa v]) (ty:=26) rfl (show Am _ 2=_ from (by first|rfl|(simp (disch:=first|decide|assumption) only [lk])))) (Ao (Aw (cs:=[Aa w,Aa x]) (ty:=42) rfl (show Am _ 3=_ from (by first|rfl|(simp (disch:=first|decide|assumption) only [lk])))) (Ao (C4 (us:=[AV.fn 26 [AV.ptr 0 0],AV.fn 27 [AV.ptr 1 0],AV.fn 28 [AV.ptr 2 0],AV.fn 29 [AV.ptr 3 0]]) (ty:=68) (Ec (Ec (Ec (Ec De)))) (show Am _ 10=_ from (by first|rfl|(simp (disch:=first|decide|assumption) only [lk])))) Bb))))))
  ·refine Wf (fun e781=> ?_) (fun _=> ?_)
   ·refine imp (Cj (show _=some ((AV.ptr 10 1),[]) from W0 (n:=4) (j:=1) e781 (by decide))) ?_
    refine iq (AV.fn 27 [AV.ptr 1 0]) (Cp (b:=⟨[AV.fn 26 [AV.ptr 0 0],AV.fn 27 [AV.ptr 1 0],AV.fn 28 [AV.ptr 2 0],AV.fn 29 [AV.ptr 3 0]],68⟩) (by first|rfl|(simp (disch:=first|decide|assumption) only [lk])) rfl) ?_
    refine At fun aj ae=> ?_
    refine imp I9 ?_
    refine imp (Nr rfl) ?_
    refine imp (Jb (Hu (Cb (Q8 _ (ty:=30) (us:=[Az d,Aa f,Aa g,Az i]) (by first|rfl|(simp (disch:=first|decide|assumption) only [lk])) (Cb (El _ _) (Cb (El _ _) (Cb (El _ _) (Cb (El _ _) Fh))))) Fh) (Afq ae) rfl)) ?_
    refine imp Ai ?_
    refine Aq (fun _=> ?_) (fun _=> ?_)
    ·exact fun hg=>Dp rfl (hR _ (Option.some.inj hg).symm) (Ck (Fu (E:=Ab.E) _) (fS Bx))
    ·exact fun hg=>hN0 _ (Option.some.inj hg).symm _ (Bc [(0,0),(1,1),(2,2),(3,3),(10,10)] rfl rfl rfl (oR (oR (oR (oR (oR (oR (oR (oR (oR (oR Bn)))))))))) (Ao (Aw (cs:=[As Ab.E c]) (ty:=32) (by simp [clean,Av,Al]) (show Am _ 0=_ from (by first|rfl|(simp (disch:=first|decide|assumption) only [lk])))) (Ao (Aw (cs:=[Az d,Aa f,Aa g,Az i]) (ty:=30) rfl (show Am _ 1=_ from (by first|rfl|(simp (disch:=first|decide|assumption) only [lk])))) (Ao (Aw (cs:=[Az k,Aa l,Aa o,Aa p,Aa q,Aa s,Aa v]) (ty:=26) rfl (show Am _ 2=_ from (by first|rfl|(simp (disch:=first|decide|assumption) only [lk])))) (Ao (Aw (cs:=[Aa w,Aa x]) (ty:=42) rfl (show Am _ 3=_ from (by first|rfl|(simp (disch:=first|decide|assumption) only [lk])))) (Ao (C4 (us:=[AV.fn 26 [AV.ptr 0 0],AV.fn 27 [AV.ptr 1 0],AV.fn 28 [AV.ptr 2 0],AV.fn 29 [AV.ptr 3 0]]) (ty:=68) (Ec (Ec (Ec (Ec De)))) (show Am _ 10=_ from (by first|rfl|(simp (disch:=first|decide|assumption) only [lk])))) Bb))))))
   ·refine Wf (fun e784=> ?_) (fun _=> ?_)
    ·refine imp (Cj (show _=some ((AV.ptr 10 2),[]) from W0 (n:=4) (j:=2) e784 (by decide))) ?_
     refine iq (AV.fn 28 [AV.ptr 2 0]) (Cp (b:=⟨[AV.fn 26 [AV.ptr 0 0],AV.fn 27 [AV.ptr 1 0],AV.fn 28 [AV.ptr 2 0],AV.fn 29 [AV.ptr 3 0]],68⟩) (by first|rfl|(simp (disch:=first|decide|assumption) only [lk])) rfl) ?_
     refine At fun ak af=> ?_
     refine imp I9 ?_
     refine imp (Nr rfl) ?_
     refine imp (Jb (Hu (Cb (Q8 _ (ty:=26) (us:=[Az k,Aa l,Aa o,Aa p,Aa q,Aa s,Aa v]) (by first|rfl|(simp (disch:=first|decide|assumption) only [lk])) (Cb (El _ _) (Cb (El _ _) (Cb (El _ _) (Cb (El _ _) (Cb (El _ _) (Cb (El _ _) (Cb (El _ _) Fh)))))))) Fh) (Ag6 af) rfl)) ?_
     refine imp Ai ?_
     refine Aq (fun _=> ?_) (fun _=> ?_)
     ·exact fun hg=>Dp rfl (hR _ (Option.some.inj hg).symm) (Ck (Fu (E:=Ab.E) _) (fS Bx))
     ·exact fun hg=>hN0 _ (Option.some.inj hg).symm _ (Bc [(0,0),(1,1),(2,2),(3,3),(10,10)] rfl rfl rfl (oR (oR (oR (oR (oR (oR (oR (oR (oR (oR Bn)))))))))) (Ao (Aw (cs:=[As Ab.E c]) (ty:=32) (by simp [clean,Av,Al]) (show Am _ 0=_ from (by first|rfl|(simp (disch:=first|decide|assumption) only [lk])))) (Ao (Aw (cs:=[Az d,Aa f,Aa g,Az i]) (ty:=30) rfl (show Am _ 1=_ from (by first|rfl|(simp (disch:=first|decide|assumption) only [lk])))) (Ao (Aw (cs:=[Az k,Aa l,Aa o,Aa p,Aa q,Aa s,Aa v]) (ty:=26) rfl (show Am _ 2=_ from (by first|rfl|(simp (disch:=first|decide|assumption) only [lk])))) (Ao (Aw (cs:=[Aa w,Aa x]) (ty:=42) rfl (show Am _ 3=_ from (by first|rfl|(simp (disch:=first|decide|assumption) only [lk])))) (Ao (C4 (us:=[AV.fn 26 [AV.ptr 0 0],AV.fn 27 [AV.ptr 1 0],AV.fn 28 [AV.ptr 2 0],AV.fn 29 [AV.ptr 3 0]]) (ty:=68) (Ec (Ec (Ec (Ec De)))) (show Am _ 10=_ from (by first|rfl|(simp (disch:=first|decide|assumption) only [lk])))) Bb))))))
    ·refine Wf (fun e787=> ?_) (fun _=> ?_)
     ·refine imp (Cj (show _=some ((AV.ptr 10 3),[]) from W0 (n:=4) (j:=3) e787 (by decide))) ?_
      refine iq (AV.fn 29 [AV.ptr 3 0]) (Cp (b:=⟨[AV.fn 26 [AV.ptr 0 0],AV.fn 27 [AV.ptr 1 0],AV.fn 28 [AV.ptr 2 0],AV.fn 29 [AV.ptr 3 0]],68⟩) (by first|rfl|(simp (disch:=first|decide|assumption) only [lk])) rfl) ?_
      refine At fun al ag=> ?_
      refine imp I9 ?_
      refine imp (Nr rfl) ?_
      refine imp (Jb (Hu (Cb (Q8 _ (ty:=42) (us:=[Aa w,Aa x]) (by first|rfl|(simp (disch:=first|decide|assumption) only [lk])) (Cb (El _ _) (Cb (El _ _) Fh))) Fh) (Af5 ag) rfl)) ?_
      refine imp Ai ?_
      refine Aq (fun _=> ?_) (fun _=> ?_)
      ·exact fun hg=>Dp rfl (hR _ (Option.some.inj hg).symm) (Ck (Fu (E:=Ab.E) _) (fS Bx))
      ·exact fun hg=>hN0 _ (Option.some.inj hg).symm _ (Bc [(0,0),(1,1),(2,2),(3,3),(10,10)] rfl rfl rfl (oR (oR (oR (oR (oR (oR (oR (oR (oR (oR Bn)))))))))) (Ao (Aw (cs:=[As Ab.E c]) (ty:=32) (by simp [clean,Av,Al]) (show Am _ 0=_ from (by first|rfl|(simp (disch:=first|decide|assumption) only [lk])))) (Ao (Aw (cs:=[Az d,Aa f,Aa g,Az i]) (ty:=30) rfl (show Am _ 1=_ from (by first|rfl|(simp (disch:=first|decide|assumption) only [lk])))) (Ao (Aw (cs:=[Az k,Aa l,Aa o,Aa p,Aa q,Aa s,Aa v]) (ty:=26) rfl (show Am _ 2=_ from (by first|rfl|(simp (disch:=first|decide|assumption) only [lk])))) (Ao (Aw (cs:=[Aa w,Aa x]) (ty:=42) rfl (show Am _ 3=_ from (by first|rfl|(simp (disch:=first|decide|assumption) only [lk])))) (Ao (C4 (us:=[AV.fn 26 [AV.ptr 0 0],AV.fn 27 [AV.ptr 1 0],AV.fn 28 [AV.ptr 2 0],AV.fn 29 [AV.ptr 3 0]]) (ty:=68) (Ec (Ec (Ec (Ec De)))) (show Am _ 10=_ from (by first|rfl|(simp (disch:=first|decide|assumption) only [lk])))) Bb))))))
     ·exact fun h=>by cases h
 ·refine iq (As Ab.E c) (Cp (b:=⟨[As Ab.E c],32⟩) (by first|rfl|(simp (disch:=first|decide|assumption) only [lk])) rfl) ?_
  refine At fun a ah=> ?_
  refine imp (An (mG ah)) ?_
  refine imp Dk ?_
  refine imp Fp ?_
  iterate 7 refine imp Ai ?_
  refine Aq (fun _=> ?_) (fun _=> ?_)
  ·exact fun hg=>Dp rfl (hR _ (Option.some.inj hg).symm) (Ck (Fu (E:=Ab.E) _) (fS Bx))
  ·refine iq (AV.agg [Az d,Aa f,Aa g,Az i]) (Ef (b:=⟨[Az d,Aa f,Aa g,Az i],30⟩) (by first|rfl|(simp (disch:=first|decide|assumption) only [lk])) rfl) ?_
   refine imp Ku ?_
   refine imp Dh ?_
   iterate 2 refine imp Ai ?_
   refine imp Dh ?_
   refine iq (AV.agg [Az k,Aa l,Aa o,Aa p,Aa q,Aa s,Aa v]) (Ef (b:=⟨[Az k,Aa l,Aa o,Aa p,Aa q,Aa s,Aa v],26⟩) (by first|rfl|(simp (disch:=first|decide|assumption) only [lk])) rfl) ?_
   refine imp V6 ?_
   refine imp Dh ?_
   iterate 6 refine imp Ai ?_
   refine iq (AV.agg [Aa w,Aa x]) (Ef (b:=⟨[Aa w,Aa x],42⟩) (by first|rfl|(simp (disch:=first|decide|assumption) only [lk])) rfl) ?_
   refine imp Fe ?_
   iterate 2 refine imp Ai ?_
   refine iq (As Ab.E c) (Cp (b:=⟨[As Ab.E c],32⟩) (by first|rfl|(simp (disch:=first|decide|assumption) only [lk])) rfl) ?_
   refine iq (AV.agg [Az d,Aa f,Aa g,Az i,AV.B1,AV.B1,Aa a.1.Ac,Aa a.1.Ak,Aa a.1.Aj,Aa a.1.Ad,Aa a.1.Ay,Aa a.1.Br,Az k,Aa l,Aa o,Aa p,Aa q,Aa s,Aa v,Aa w,Aa x,As Ab.E c]) rfl ?_
   refine imp (Ce (sz:=22) Bi Bi rfl rfl (cs:=[Az (⟨#[]⟩:ByteArray),Aa (0),Aa (0),Az (⟨#[]⟩:ByteArray),AV.B1,AV.B1,Aa (0),Aa (0),Aa (0),Aa (0),Aa (0),Aa (0),Az (⟨#[]⟩:ByteArray),Aa (0),Aa (0),Aa (0),Aa (0),Aa (0),Aa (0),Aa (0),Aa (0),AV.B1]) (cs':=[Az d,Aa f,Aa g,Az i,AV.B1,AV.B1,Aa a.1.Ac,Aa a.1.Ak,Aa a.1.Aj,Aa a.1.Ad,Aa a.1.Ay,Aa a.1.Br,Az k,Aa l,Aa o,Aa p,Aa q,Aa s,Aa v,Aa w,Aa x,As Ab.E c]) (ty:=72) (by first|rfl|(simp (disch:=first|decide|assumption) only [lk])) rfl rfl) ?_
   refine iq (As Ab.E c) (Cp (b:=⟨[As Ab.E c],32⟩) (by first|rfl|(simp (disch:=first|decide|assumption) only [lk])) rfl) ?_
   refine iq (Aa (c.length:Int)) rfl ?_
   refine imp Ai ?_
   refine R7 fun t0 e0=> ?_
   exact fun hg=>u6 n z aa a.2 c (c.length:Int) a.1.Ac a.1.Ak a.1.Aj a.1.Ad a.1.Ay a.1.Br R (fun r e=>hR r (e0.trans (congrArg Sum.inr e))) n _ hg (Bc [(0,0),(100070,100070),(90000,89500),(90001,89501),(100081,100081)] rfl rfl rfl (oR (oR (oR (oR (oR (oR (oR (A9 (Bz (E:=Ab.E) _ false) (oR (oR Bn)))))))))) (Ao (Aw (cs:=[As Ab.E c]) (ty:=32) (by simp [clean,Av,Al]) (show Am _ 0=_ from (by first|rfl|(simp (disch:=first|decide|assumption) only [lk])))) (Ao (Aw (cs:=[Aa a.1.Ac,Aa a.1.Ak,Aa a.1.Aj,Aa a.1.Ad,Aa a.1.Ay,Aa a.1.Br]) (ty:=47) rfl (show Am _ 100070=_ from (by first|rfl|(simp (disch:=first|decide|assumption) only [lk])))) (Ao Qv (Ao Qv (Ao (C4 (us:=[Az d,Aa f,Aa g,Az i,AV.B1,AV.B1,Aa a.1.Ac,Aa a.1.Ak,Aa a.1.Aj,Aa a.1.Ad,Aa a.1.Ay,Aa a.1.Br,Az k,Aa l,Aa o,Aa p,Aa q,Aa s,Aa v,Aa w,Aa x,As Ab.E c]) (ty:=72) (Ec (Ec (Ec (Ec (Co (Kz (E:=Ab.E) (j:=90000)) (Co (Kz (E:=Ab.E) (j:=90001)) (Ec (Ec (Ec (Ec (Ec (Ec (Ec (Ec (Ec (Ec (Ec (Ec (Ec (Ec (Ec (Co (Ln (Gg _ (by simp [clean,Av,Al])).symm) De)))))))))))))))))))))) (show Am _ 100081=_ from (by first|rfl|(simp (disch:=first|decide|assumption) only [lk])))) Bb))))))
theorem wA (n:Nat) (a b Qh:Int) (c:List Ab) (d:ByteArray) (f g:Int) (i j:ByteArray) (l o p q v w aa ab:Int) {t:eH} (R:AV→Mem→Prop) (hR:∀r:eH,t=r→∀u m,C2 ((AV.B4 [As Ab.E r.1,Aa r.2])) u m→R u m) (k:Nat) (x:Int) (hx:Bt (fun y:Int=>Lq n a b Qh c d f g i j l o p q v w aa ab y) k x=some t) {s:St} (hw:Cl KK 108 0 s (gU a AV.B1 b (AV.sl 10 0 1 4 4 true) Qh x [(0,some ⟨[As Ab.E c],32⟩),(1,some ⟨[Az d,Aa f,Aa g,Az i],30⟩),(2,some ⟨[Az j,Aa l,Aa o,Aa p,Aa q,Aa v,Aa w],26⟩),(3,some ⟨[Aa aa,Aa ab],42⟩),(10,some ⟨[AV.fn 26 [AV.ptr 0 0],AV.fn 27 [AV.ptr 1 0],AV.fn 28 [AV.ptr 2 0],AV.fn 29 [AV.ptr 3 0]],68⟩)])):C6 pg KK 108 0 (.loop oS) s (uW R):=
 Afl R (σ:=Nat×(Int)) (fun z=>Bt (fun y:Int=>Lq n a b Qh c d f g i j l o p q v w aa ab y) z.1 z.2=some t) (fun z=>a) (fun z=>AV.B1) (fun z=>b) (fun z=>(AV.sl 10 0 1 4 4 true)) (fun z=>Qh) (fun z=>z.2) (fun z=>[(0,some ⟨[As Ab.E c],32⟩),(1,some ⟨[Az d,Aa f,Aa g,Az i],30⟩),(2,some ⟨[Az j,Aa l,Aa o,Aa p,Aa q,Aa v,Aa w],26⟩),(3,some ⟨[Aa aa,Aa ab],42⟩),(10,some ⟨[AV.fn 26 [AV.ptr 0 0],AV.fn 27 [AV.ptr 1 0],AV.fn 28 [AV.ptr 2 0],AV.fn 29 [AV.ptr 3 0]],68⟩)]) (fun z=>z.1) (by
  rintro ⟨k,y⟩ h
  cases k with
  |zero=>exact (Cz h).elim
  |succ k=>
   obtain ⟨u,h1,h2,h3⟩:=Cv h
   exact tX n a b Qh c d f g i j l o p q v w aa ab y R _ (fun r e=>hR r (h3 _ e).symm) (fun y' e s' hw=>⟨(k,y'),h2 _ e,Nat.lt_succ_self k,hw⟩) h1) (k,x) hx hw
theorem Aeo (n:Nat) (d:List Ab) (b:Ae) (e:Int) (a:Dm) (c:TP) {t:eH} (R:AV→Mem→Prop) (hR:∀r:eH,t=r→∀u m,C2 ((AV.B4 [As Ab.E r.1,Aa r.2])) u m→R u m):g8 n d b e a c=some t→F8 (As Ab.E d) b.Call b.Kind b.Value b.Fix e a.Name a.D9 a.B6 a.C1 a.Ca a.Dy a.Dz c.X c.Y R:=by
 unfold g8 F8
 refine imp (Ei rfl) ?_
 refine imp (Dv (show _=some ((AV.sl 10 0 1 4 4 true),[(10,some ⟨[AV.fn 26 [AV.ptr 0 0],AV.fn 27 [AV.ptr 1 0],AV.fn 28 [AV.ptr 2 0],AV.fn 29 [AV.ptr 3 0]],68⟩)]) from rfl)) ?_
 refine iq (Aa (4)) rfl ?_
 refine imp Ai ?_
 exact fun hg=>wA n e (0) (4) d b.Call b.Kind b.Value b.Fix a.Name a.D9 a.B6 a.C1 a.Ca a.Dy a.Dz c.X c.Y R hR n _ hg (Bc [(0,0),(1,1),(2,2),(3,3),(10,10)] rfl rfl rfl (oR (oR (oR (oR (oR (oR (oR (oR (oR (oR Bn)))))))))) (Ao (Aw (cs:=[As Ab.E d]) (ty:=32) (by simp [clean,Av,Al]) (show Am _ 0=_ from (by first|rfl|(simp (disch:=first|decide|assumption) only [lk])))) (Ao (Aw (cs:=[Az b.Call,Aa b.Kind,Aa b.Value,Az b.Fix]) (ty:=30) rfl (show Am _ 1=_ from (by first|rfl|(simp (disch:=first|decide|assumption) only [lk])))) (Ao (Aw (cs:=[Az a.Name,Aa a.D9,Aa a.B6,Aa a.C1,Aa a.Ca,Aa a.Dy,Aa a.Dz]) (ty:=26) rfl (show Am _ 2=_ from (by first|rfl|(simp (disch:=first|decide|assumption) only [lk])))) (Ao (Aw (cs:=[Aa c.X,Aa c.Y]) (ty:=42) rfl (show Am _ 3=_ from (by first|rfl|(simp (disch:=first|decide|assumption) only [lk])))) (Ao (C4 (us:=[AV.fn 26 [AV.ptr 0 0],AV.fn 27 [AV.ptr 1 0],AV.fn 28 [AV.ptr 2 0],AV.fn 29 [AV.ptr 3 0]]) (ty:=68) (Ec (Ec (Ec (Ec De)))) (show Am _ 10=_ from (by first|rfl|(simp (disch:=first|decide|assumption) only [lk])))) Bb))))))
theorem sg8 {n:Nat} {d:List Ab} {b:Ae} {f:Int} {a:Dm} {c:TP} {t:eH} (h:g8 n d b f a c=some t):Dc pg KK.gl 8 [As Ab.E d,AV.agg [Az b.Call,Aa b.Kind,Aa b.Value,Az b.Fix],Aa f,AV.agg [Az a.Name,Aa a.D9,Aa a.B6,Aa a.C1,Aa a.Ca,Aa a.Dy,Aa a.Dz],AV.agg [Aa c.X,Aa c.Y]] ((AV.B4 [As Ab.E t.1,Aa t.2])):=
 A1 (by first|rfl|simp [Av,clean,Al,En.Di]) (by first|rfl|simp [Av,clean,Al,En.Di]) (zH (As Ab.E d) b.Call b.Kind b.Value b.Fix f a.Name a.D9 a.B6 a.C1 a.Ca a.Dy a.Dz c.X c.Y _ (Aeo n d b f a c (C2 ((AV.B4 [As Ab.E t.1,Aa t.2]))) (fun r e u m h=>by rw [e];exact h) h))
theorem rO (n:Nat) (w:List (List Ab)) (x z a:Int) (Qb:List Ae) (Nw e f:Int) (g:ByteArray) (h i j k l o:Int) (c:ByteArray) (aa:Int) (p:ByteArray) (q s:Int) (v:ByteArray) {t:(Int×ByteArray×Int×Int×ByteArray)⊕wG} (R:AV→Mem→Prop) (N0:St→Prop) (hR:∀r:wG,t=(.inr r)→∀u m,C2 ((AV.B4 [AV.agg (Ae.E.enc r.1),As Ab.E r.2.1,Aa r.2.2])) u m→R u m) (hN0:∀y:Int×ByteArray×Int×Int×ByteArray,t=(.inl y)→∀s':St,Cl KK 87 0 s' (iM (As (Ct Ab.E) w) x z AV.B1 a (As Ae.E Qb) Nw y.1 [(0,some ⟨[Aa e,Aa f],24⟩),(1,some ⟨[Az g,Aa h,Aa i,Aa j,Aa k,Aa l,Aa o],26⟩),(2,some ⟨[Az y.2.1,Aa y.2.2.1,Aa y.2.2.2.1,Az y.2.2.2.2],30⟩),(6,some ⟨[Az c,Aa a,Aa a,Az c],30⟩)])→N0 s'):Qc n w x z a Qb Nw e f g h i j k l o c aa p q s v=some t→xD (As (Ct Ab.E) w) x z AV.B1 a (As Ae.E Qb) Nw aa [(0,some ⟨[Aa e,Aa f],24⟩),(1,some ⟨[Az g,Aa h,Aa i,Aa j,Aa k,Aa l,Aa o],26⟩),(2,some ⟨[Az p,Aa q,Aa s,Az v],30⟩),(6,some ⟨[Az c,Aa a,Aa a,Az c],30⟩)] R N0:=by
 unfold Qc xD
 refine Aq (fun _=> ?_) (fun _=> ?_)
 ·refine At fun d ad=> ?_
  refine iq (AV.Dn [Az d.Call,Aa d.Kind,Aa d.Value,Az d.Fix] 0) (C5 (E:=Ae.E) rfl ad) ?_
  refine iq (AV.agg [Az d.Call,Aa d.Kind,Aa d.Value,Az d.Fix]) rfl ?_
  refine imp Ku ?_
  refine imp Dh ?_
  iterate 2 refine imp Ai ?_
  refine imp Dh ?_
  refine At fun ab ae=> ?_
  refine iq (AV.Dn [As Ab.E ab] 0) (C5 (E:=(Ct Ab.E)) rfl ae) ?_
  refine iq (As Ab.E ab) rfl ?_
  refine iq (AV.agg [Az g,Aa h,Aa i,Aa j,Aa k,Aa l,Aa o]) (Ef (b:=⟨[Az g,Aa h,Aa i,Aa j,Aa k,Aa l,Aa o],26⟩) (by first|rfl|(simp (disch:=first|decide|assumption) only [lk])) rfl) ?_
  refine imp V6 ?_
  refine imp Dh ?_
  iterate 6 refine imp Ai ?_
  refine iq (AV.agg [Aa (0),Aa (0)]) rfl ?_
  refine At fun ah af=> ?_
  refine imp (An (sg8 af)) ?_
  refine imp Dk ?_
  refine imp Ai ?_
  refine Aq (fun _=> ?_) (fun _=> ?_)
  ·refine iq (AV.agg [Aa e,Aa f]) (Ef (b:=⟨[Aa e,Aa f],24⟩) (by first|rfl|(simp (disch:=first|decide|assumption) only [lk])) rfl) ?_
   refine imp Fe ?_
   iterate 2 refine imp Ai ?_
   refine At fun ai ag=> ?_
   refine imp (An (Ac7 ag)) ?_
   refine imp Eh ?_
   refine Aq (fun _=> ?_) (fun _=> ?_)
   ·refine imp (Ce (sz:=4) Bi Bi rfl rfl (cs:=[Az p,Aa q,Aa s,Az v]) (cs':=[Az d.Call,Aa d.Kind,Aa d.Value,Az d.Fix]) (ty:=30) (by first|rfl|(simp (disch:=first|decide|assumption) only [lk])) rfl rfl) ?_
    exact fun hg=>Dp rfl (hR _ (Option.some.inj hg).symm) (Ck (Gi (E:=Ae.E) _ d) (Ck (nY (E:=Ab.E) _ _ false) (fS Bx)))
   ·exact fun hg=>hN0 _ (Option.some.inj hg).symm _ (Bc [(0,0),(1,1),(2,2),(6,6)] rfl rfl rfl (A9 (Bz (E:=(Ct Ab.E)) _ false) (oR (oR (oR (oR (oR (oR (oR (oR (A9 (Bz (E:=Ae.E) _ false) (oR (oR Bn)))))))))))) (Ao (Aw (cs:=[Aa e,Aa f]) (ty:=24) rfl (show Am _ 0=_ from (by first|rfl|(simp (disch:=first|decide|assumption) only [lk])))) (Ao (Aw (cs:=[Az g,Aa h,Aa i,Aa j,Aa k,Aa l,Aa o]) (ty:=26) rfl (show Am _ 1=_ from (by first|rfl|(simp (disch:=first|decide|assumption) only [lk])))) (Ao (Aw (cs:=[Az p,Aa q,Aa s,Az v]) (ty:=30) rfl (show Am _ 2=_ from (by first|rfl|(simp (disch:=first|decide|assumption) only [lk])))) (Ao (Aw (cs:=[Az c,Aa a,Aa a,Az c]) (ty:=30) rfl (show Am _ 6=_ from (by first|rfl|(simp (disch:=first|decide|assumption) only [lk])))) Bb)))))
  ·exact fun hg=>hN0 _ (Option.some.inj hg).symm _ (Bc [(0,0),(1,1),(2,2),(6,6)] rfl rfl rfl (A9 (Bz (E:=(Ct Ab.E)) _ false) (oR (oR (oR (oR (oR (oR (oR (oR (A9 (Bz (E:=Ae.E) _ false) (oR (oR Bn)))))))))))) (Ao (Aw (cs:=[Aa e,Aa f]) (ty:=24) rfl (show Am _ 0=_ from (by first|rfl|(simp (disch:=first|decide|assumption) only [lk])))) (Ao (Aw (cs:=[Az g,Aa h,Aa i,Aa j,Aa k,Aa l,Aa o]) (ty:=26) rfl (show Am _ 1=_ from (by first|rfl|(simp (disch:=first|decide|assumption) only [lk])))) (Ao (Aw (cs:=[Az p,Aa q,Aa s,Az v]) (ty:=30) rfl (show Am _ 2=_ from (by first|rfl|(simp (disch:=first|decide|assumption) only [lk])))) (Ao (Aw (cs:=[Az c,Aa a,Aa a,Az c]) (ty:=30) rfl (show Am _ 6=_ from (by first|rfl|(simp (disch:=first|decide|assumption) only [lk])))) Bb)))))
 ·refine iq (AV.agg [Az c,Aa a,Aa a,Az c]) (Ef (b:=⟨[Az c,Aa a,Aa a,Az c],30⟩) (by first|rfl|(simp (disch:=first|decide|assumption) only [lk])) rfl) ?_
  refine imp Ku ?_
  refine imp Dh ?_
  iterate 2 refine imp Ai ?_
  refine imp Dh ?_
  refine imp (Ce (sz:=4) Bi Bi rfl rfl (cs:=[Az p,Aa q,Aa s,Az v]) (cs':=[Az c,Aa a,Aa a,Az c]) (ty:=30) (by first|rfl|(simp (disch:=first|decide|assumption) only [lk])) rfl rfl) ?_
  exact fun hg=>Dp rfl (hR _ (Option.some.inj hg).symm) (Ck (Gi (E:=Ae.E) _ (⟨c,a,a,c⟩:Ae)) (Ck (Fu (E:=Ab.E) _) (fS Bx)))
theorem rC (n:Nat) (c:List (List Ab)) (d f a:Int) (Qb:List Ae) (Nw g i:Int) (j:ByteArray) (l o p q v w:Int) (b:ByteArray) {t:wG} (R:AV→Mem→Prop) (hR:∀r:wG,t=r→∀u m,C2 ((AV.B4 [AV.agg (Ae.E.enc r.1),As Ab.E r.2.1,Aa r.2.2])) u m→R u m) (k:Nat) (x:Int×ByteArray×Int×Int×ByteArray) (hx:Bt (fun y:Int×ByteArray×Int×Int×ByteArray=>Qc n c d f a Qb Nw g i j l o p q v w b y.1 y.2.1 y.2.2.1 y.2.2.2.1 y.2.2.2.2) k x=some t) {s:St} (hw:Cl KK 87 0 s (iM (As (Ct Ab.E) c) d f AV.B1 a (As Ae.E Qb) Nw x.1 [(0,some ⟨[Aa g,Aa i],24⟩),(1,some ⟨[Az j,Aa l,Aa o,Aa p,Aa q,Aa v,Aa w],26⟩),(2,some ⟨[Az x.2.1,Aa x.2.2.1,Aa x.2.2.2.1,Az x.2.2.2.2],30⟩),(6,some ⟨[Az b,Aa a,Aa a,Az b],30⟩)])):C6 pg KK 87 0 (.loop rN) s (wB R):=
 Afi R (σ:=Nat×(Int×ByteArray×Int×Int×ByteArray)) (fun z=>Bt (fun y:Int×ByteArray×Int×Int×ByteArray=>Qc n c d f a Qb Nw g i j l o p q v w b y.1 y.2.1 y.2.2.1 y.2.2.2.1 y.2.2.2.2) z.1 z.2=some t) (fun z=>(As (Ct Ab.E) c)) (fun z=>d) (fun z=>f) (fun z=>AV.B1) (fun z=>a) (fun z=>(As Ae.E Qb)) (fun z=>Nw) (fun z=>z.2.1) (fun z=>[(0,some ⟨[Aa g,Aa i],24⟩),(1,some ⟨[Az j,Aa l,Aa o,Aa p,Aa q,Aa v,Aa w],26⟩),(2,some ⟨[Az z.2.2.1,Aa z.2.2.2.1,Aa z.2.2.2.2.1,Az z.2.2.2.2.2],30⟩),(6,some ⟨[Az b,Aa a,Aa a,Az b],30⟩)]) (fun z=>z.1) (by
  rintro ⟨k,y⟩ h
  cases k with
  |zero=>exact (Cz h).elim
  |succ k=>
   obtain ⟨u,h1,h2,h3⟩:=Cv h
   exact rO n c d f a Qb Nw g i j l o p q v w b y.1 y.2.1 y.2.2.1 y.2.2.2.1 y.2.2.2.2 R _ (fun r e=>hR r (h3 _ e).symm) (fun y' e s' hw=>⟨(k,y'),h2 _ e,Nat.lt_succ_self k,hw⟩) h1) (k,x) hx hw
theorem Afb (n:Nat) (d:List (List Ab)) (e:Int) (c:Ea) (h:ByteArray) (f:Int) (a:Dm) {t:wG} (R:AV→Mem→Prop) (hR:∀r:wG,t=r→∀u m,C2 ((AV.B4 [AV.agg (Ae.E.enc r.1),As Ab.E r.2.1,Aa r.2.2])) u m→R u m):g6 n d e c h f a=some t→F6 (As (Ct Ab.E) d) e c.Bu c.Bj h f a.Name a.D9 a.B6 a.C1 a.Ca a.Dy a.Dz R:=by
 unfold g6 F6
 refine iq (AV.agg [Az (⟨#[]⟩:ByteArray),Aa (0),Aa (0),Az (⟨#[]⟩:ByteArray)]) rfl ?_
 refine imp (Ce (sz:=4) Bi Bi rfl rfl (cs:=[Az (⟨#[]⟩:ByteArray),Aa (0),Aa (0),Az (⟨#[]⟩:ByteArray)]) (cs':=[Az (⟨#[]⟩:ByteArray),Aa (0),Aa (0),Az (⟨#[]⟩:ByteArray)]) (ty:=30) (by first|rfl|(simp (disch:=first|decide|assumption) only [lk])) rfl rfl) ?_
 refine iq (AV.agg [Aa c.Bu,Aa c.Bj]) (Ef (b:=⟨[Aa c.Bu,Aa c.Bj],24⟩) (by first|rfl|(simp (disch:=first|decide|assumption) only [lk])) rfl) ?_
 refine imp Fe ?_
 iterate 2 refine imp Ai ?_
 refine At fun s k=> ?_
 refine imp (An (Age k)) ?_
 refine imp Ai ?_
 refine Aq (fun _=> ?_) (fun _=> ?_)
 ·refine iq (AV.agg [Az (⟨#[]⟩:ByteArray),Aa (0),Aa (0),Az (⟨#[]⟩:ByteArray)]) (Ef (b:=⟨[Az (⟨#[]⟩:ByteArray),Aa (0),Aa (0),Az (⟨#[]⟩:ByteArray)],30⟩) (by first|rfl|(simp (disch:=first|decide|assumption) only [lk])) rfl) ?_
  refine imp Ku ?_
  refine imp Dh ?_
  iterate 2 refine imp Ai ?_
  refine imp Dh ?_
  refine imp (Ce (sz:=4) Bi Bi rfl rfl (cs:=[Az (⟨#[]⟩:ByteArray),Aa (0),Aa (0),Az (⟨#[]⟩:ByteArray)]) (cs':=[Az (⟨#[]⟩:ByteArray),Aa (0),Aa (0),Az (⟨#[]⟩:ByteArray)]) (ty:=30) (by first|rfl|(simp (disch:=first|decide|assumption) only [lk])) rfl rfl) ?_
  exact fun hg=>Dp rfl (hR _ (Option.some.inj hg).symm) (Ck (Gi (E:=Ae.E) _ (⟨(⟨#[]⟩:ByteArray),0,0,(⟨#[]⟩:ByteArray)⟩:Ae)) (Ck (Fu (E:=Ab.E) _) (fS Bx)))
 ·refine At fun i l=> ?_
  refine iq (AV.Dn [As Ab.E i] 0) (C5 (E:=(Ct Ab.E)) rfl l) ?_
  refine iq (As Ab.E i) rfl ?_
  refine iq (AV.agg [Az a.Name,Aa a.D9,Aa a.B6,Aa a.C1,Aa a.Ca,Aa a.Dy,Aa a.Dz]) (Ef (b:=⟨[Az a.Name,Aa a.D9,Aa a.B6,Aa a.C1,Aa a.Ca,Aa a.Dy,Aa a.Dz],26⟩) (by first|rfl|(simp (disch:=first|decide|assumption) only [lk])) rfl) ?_
  refine imp V6 ?_
  refine imp Dh ?_
  iterate 6 refine imp Ai ?_
  refine At fun g o=> ?_
  refine imp (An (sg7 o)) ?_
  refine imp Dk ?_
  refine imp Ai ?_
  refine Aq (fun _=> ?_) (fun _=> ?_)
  ·refine iq (AV.agg [Az (⟨#[]⟩:ByteArray),Aa (0),Aa (0),Az (⟨#[]⟩:ByteArray)]) (Ef (b:=⟨[Az (⟨#[]⟩:ByteArray),Aa (0),Aa (0),Az (⟨#[]⟩:ByteArray)],30⟩) (by first|rfl|(simp (disch:=first|decide|assumption) only [lk])) rfl) ?_
   refine imp Ku ?_
   refine imp Dh ?_
   iterate 2 refine imp Ai ?_
   refine imp Dh ?_
   refine imp (Ce (sz:=4) Bi Bi rfl rfl (cs:=[Az (⟨#[]⟩:ByteArray),Aa (0),Aa (0),Az (⟨#[]⟩:ByteArray)]) (cs':=[Az (⟨#[]⟩:ByteArray),Aa (0),Aa (0),Az (⟨#[]⟩:ByteArray)]) (ty:=30) (by first|rfl|(simp (disch:=first|decide|assumption) only [lk])) rfl rfl) ?_
   exact fun hg=>Dp rfl (hR _ (Option.some.inj hg).symm) (Ck (Gi (E:=Ae.E) _ (⟨(⟨#[]⟩:ByteArray),0,0,(⟨#[]⟩:ByteArray)⟩:Ae)) (Ck (Fu (E:=Ab.E) _) (fS Bx)))
  ·refine At fun j p=> ?_
   refine iq (AV.Dn [As Ab.E j] 0) (C5 (E:=(Ct Ab.E)) rfl p) ?_
   refine iq (As Ab.E j) rfl ?_
   refine iq (AV.agg [Aa c.Bu,Aa c.Bj]) (Ef (b:=⟨[Aa c.Bu,Aa c.Bj],24⟩) (by first|rfl|(simp (disch:=first|decide|assumption) only [lk])) rfl) ?_
   refine imp Fe ?_
   iterate 2 refine imp Ai ?_
   refine At fun v q=> ?_
   refine imp (An (Ac7 q)) ?_
   refine imp Eh ?_
   refine Aq (fun _=> ?_) (fun _=> ?_)
   ·refine iq (AV.agg [Az (⟨#[]⟩:ByteArray),Aa (0),Aa (0),Az (⟨#[]⟩:ByteArray)]) (Ef (b:=⟨[Az (⟨#[]⟩:ByteArray),Aa (0),Aa (0),Az (⟨#[]⟩:ByteArray)],30⟩) (by first|rfl|(simp (disch:=first|decide|assumption) only [lk])) rfl) ?_
    refine imp Ku ?_
    refine imp Dh ?_
    iterate 2 refine imp Ai ?_
    refine imp Dh ?_
    refine imp (Ce (sz:=4) Bi Bi rfl rfl (cs:=[Az (⟨#[]⟩:ByteArray),Aa (0),Aa (0),Az (⟨#[]⟩:ByteArray)]) (cs':=[Az (⟨#[]⟩:ByteArray),Aa (0),Aa (0),Az (⟨#[]⟩:ByteArray)]) (ty:=30) (by first|rfl|(simp (disch:=first|decide|assumption) only [lk])) rfl rfl) ?_
    exact fun hg=>Dp rfl (hR _ (Option.some.inj hg).symm) (Ck (Gi (E:=Ae.E) _ (⟨(⟨#[]⟩:ByteArray),0,0,(⟨#[]⟩:ByteArray)⟩:Ae)) (Ck (Fu (E:=Ab.E) _) (fS Bx)))
   ·refine iq (Aa (g.1.length:Int)) rfl ?_
    refine imp Ai ?_
    exact fun hg=>rC n d e f (0) g.1 (g.1.length:Int) c.Bu c.Bj a.Name a.D9 a.B6 a.C1 a.Ca a.Dy a.Dz (⟨#[]⟩:ByteArray) R hR n _ hg (Bc [(0,0),(1,1),(2,2),(6,6)] rfl rfl rfl (A9 (Bz (E:=(Ct Ab.E)) _ false) (oR (oR (oR (oR (oR (oR (oR (oR (A9 (Bz (E:=Ae.E) _ false) (oR (oR Bn)))))))))))) (Ao (Aw (cs:=[Aa c.Bu,Aa c.Bj]) (ty:=24) rfl (show Am _ 0=_ from (by first|rfl|(simp (disch:=first|decide|assumption) only [lk])))) (Ao (Aw (cs:=[Az a.Name,Aa a.D9,Aa a.B6,Aa a.C1,Aa a.Ca,Aa a.Dy,Aa a.Dz]) (ty:=26) rfl (show Am _ 1=_ from (by first|rfl|(simp (disch:=first|decide|assumption) only [lk])))) (Ao (Aw (cs:=[Az (⟨#[]⟩:ByteArray),Aa (0),Aa (0),Az (⟨#[]⟩:ByteArray)]) (ty:=30) rfl (show Am _ 2=_ from (by first|rfl|(simp (disch:=first|decide|assumption) only [lk])))) (Ao (Aw (cs:=[Az (⟨#[]⟩:ByteArray),Aa (0),Aa (0),Az (⟨#[]⟩:ByteArray)]) (ty:=30) rfl (show Am _ 6=_ from (by first|rfl|(simp (disch:=first|decide|assumption) only [lk])))) Bb)))))
theorem sg6 {n:Nat} {c:List (List Ab)} {d:Int} {b:Ea} {f:ByteArray} {g:Int} {a:Dm} {t:wG} (h:g6 n c d b f g a=some t):Dc pg KK.gl 6 [As (Ct Ab.E) c,Aa d,AV.agg [Aa b.Bu,Aa b.Bj],Az f,Aa g,AV.agg [Az a.Name,Aa a.D9,Aa a.B6,Aa a.C1,Aa a.Ca,Aa a.Dy,Aa a.Dz]] ((AV.B4 [AV.agg (Ae.E.enc t.1),As Ab.E t.2.1,Aa t.2.2])):=
 A1 (by first|rfl|simp [Av,clean,Al,En.Di]) (by first|rfl|simp [Av,clean,Al,En.Di]) (zD (As (Ct Ab.E) c) d b.Bu b.Bj f g a.Name a.D9 a.B6 a.C1 a.Ca a.Dy a.Dz _ (Afb n c d b f g a (C2 ((AV.B4 [AV.agg (Ae.E.enc t.1),As Ab.E t.2.1,Aa t.2.2]))) (fun r e u m h=>by rw [e];exact h) h))
theorem pJ (n:Nat) (c d:List Ab) (e:Bool) (f g:Int) {t:(Int)⊕wF} (R:AV→Mem→Prop) (N0:St→Prop) (hR:∀r:wF,t=(.inr r)→∀u m,C2 ((Ah r)) u m→R u m) (hN0:∀y:Int,t=(.inl y)→∀s':St,Cl KK 26 0 s' (fR (As Ab.E c) (As Ab.E d) e f y [])→N0 s'):Sw n c d e f g=some t→o5 (As Ab.E c) (As Ab.E d) e f g [] R N0:=by
 unfold Sw o5
 refine Aq (fun _=> ?_) (fun _=> ?_)
 ·refine At fun a h=> ?_
  refine iq (AV.Dn [Aa a.Ac,Aa a.Ak,Aa a.Aj,Aa a.Ad,Aa a.Ay,Aa a.Br] 0) (C5 (E:=Ab.E) rfl h) ?_
  refine iq (AV.agg [Aa a.Ac,Aa a.Ak,Aa a.Aj,Aa a.Ad,Aa a.Ay,Aa a.Br]) rfl ?_
  refine imp Fp ?_
  iterate 6 refine imp Ai ?_
  refine At fun b i=> ?_
  refine iq (AV.Dn [Aa b.Ac,Aa b.Ak,Aa b.Aj,Aa b.Ad,Aa b.Ay,Aa b.Br] 0) (C5 (E:=Ab.E) rfl i) ?_
  refine iq (AV.agg [Aa b.Ac,Aa b.Ak,Aa b.Aj,Aa b.Ad,Aa b.Ay,Aa b.Br]) rfl ?_
  refine imp Fp ?_
  iterate 6 refine imp Ai ?_
  refine iq (Ah (!(decide (a=b)))) (Ab.Aem (a) (b)) ?_
  refine imp Eh ?_
  refine Aq (fun _=> ?_) (fun _=> ?_)
  ·exact C9 hR rfl rfl
  ·exact fun hg=>hN0 _ (Option.some.inj hg).symm _ (Bc [] rfl rfl rfl (A9 (Bz (E:=Ab.E) _ false) (A9 (Bz (E:=Ab.E) _ false) (oR (oR (oR Bn))))) Bb)
 ·exact C9 hR rfl rfl
theorem uR (n:Nat) (a b:List Ab) (c:Bool) (d:Int) {t:wF} (R:AV→Mem→Prop) (hR:∀r:wF,t=r→∀u m,C2 ((Ah r)) u m→R u m) (k:Nat) (x:Int) (hx:Bt (fun y:Int=>Sw n a b c d y) k x=some t) {s:St} (hw:Cl KK 26 0 s (fR (As Ab.E a) (As Ab.E b) c d x [])):C6 pg KK 26 0 (.loop vQ) s (rA R):=
 Ahd R (σ:=Nat×(Int)) (fun z=>Bt (fun y:Int=>Sw n a b c d y) z.1 z.2=some t) (fun z=>(As Ab.E a)) (fun z=>(As Ab.E b)) (fun z=>c) (fun z=>d) (fun z=>z.2) (fun z=>[]) (fun z=>z.1) (by
  rintro ⟨k,y⟩ h
  cases k with
  |zero=>exact (Cz h).elim
  |succ k=>
   obtain ⟨u,f,g,i⟩:=Cv h
   exact pJ n a b c d y R _ (fun r e=>hR r (i _ e).symm) (fun y' e s' hw=>⟨(k,y'),g _ e,Nat.lt_succ_self k,hw⟩) f) (k,x) hx hw
theorem Aek (n:Nat) (a b:List Ab) {t:wF} (R:AV→Mem→Prop) (hR:∀r:wF,t=r→∀u m,C2 ((Ah r)) u m→R u m):g9 n a b=some t→F9 (As Ab.E a) (As Ab.E b) R:=by
 unfold g9 F9
 refine iq (Aa (a.length:Int)) rfl ?_
 refine imp Ai ?_
 refine iq (Aa (b.length:Int)) rfl ?_
 refine imp Ai ?_
 refine Aq (fun _=> ?_) (fun _=> ?_)
 ·exact C9 hR rfl rfl
 ·refine iq (Aa (a.length:Int)) rfl ?_
  refine imp Ai ?_
  exact fun hg=>uR n a b false (a.length:Int) R hR n _ hg (Bc [] rfl rfl rfl (A9 (Bz (E:=Ab.E) _ false) (A9 (Bz (E:=Ab.E) _ false) (oR (oR (oR Bn))))) Bb)
theorem sg9 {n:Nat} {a:List Ab} {b:List Ab} {t:wF} (h:g9 n a b=some t):Dc pg KK.gl 9 [As Ab.E a,As Ab.E b] ((Ah t)):=
 A1 (by first|rfl|simp [Av,clean,Al,En.Di]) (by first|rfl|simp [Av,clean,Al,En.Di]) (Aal (As Ab.E a) (As Ab.E b) _ (Aek n a b (C2 ((Ah t))) (fun r e u m h=>by rw [e];exact h) h))
theorem lM (n:Nat) (c:Int) (d:List Ab) (c8:Bool) (e:List (List Ab)) (f a b g:Int) {t:(Int)⊕Wy} (R:AV→Mem→Prop) (N0:St→Prop) (hR:∀r:Wy,t=(.inr r)→∀u m,C2 ((Ah r)) u m→R u m) (hN0:∀y:Int,t=(.inl y)→∀s':St,Cl KK 33 0 s' (Tx c (As Ab.E d) c8 (As (Ct Ab.E) e) f y a b [])→N0 s'):Lt n c d c8 e f a b g=some t→cU c (As Ab.E d) c8 (As (Ct Ab.E) e) f g a b [] R N0:=by
 unfold Lt cU
 refine Aq (fun _=> ?_) (fun _=> ?_)
 ·refine At fun h i=> ?_
  refine iq (AV.Dn [As Ab.E h] 0) (C5 (E:=(Ct Ab.E)) rfl i) ?_
  refine iq (As Ab.E h) rfl ?_
  refine Aq (fun _=> ?_) (fun _=> ?_)
  ·exact fun hg=>hN0 _ (Option.some.inj hg).symm _ (Bc [(0,0)] rfl rfl rfl (oR (A9 (Bz (E:=Ab.E) _ false) (oR (oR (A9 (Bz (E:=(Ct Ab.E)) _ false) (oR (oR Bn))))))) (Ao (Aw (cs:=[Aa a,Aa b]) (ty:=24) rfl (show Am _ 0=_ from (by first|rfl|(simp (disch:=first|decide|assumption) only [lk])))) Bb))
  ·refine At fun k j=> ?_
   refine imp (An (Acl j)) ?_
   refine imp Dk ?_
   iterate 2 refine imp Ai ?_
   refine Aq (fun _=> ?_) (fun _=> ?_)
   ·exact C9 hR rfl rfl
   ·exact fun hg=>hN0 _ (Option.some.inj hg).symm _ (Bc [(0,0)] rfl rfl rfl (oR (A9 (Bz (E:=Ab.E) _ false) (oR (oR (A9 (Bz (E:=(Ct Ab.E)) _ false) (oR (oR Bn))))))) (Ao (Aw (cs:=[Aa a,Aa b]) (ty:=24) rfl (show Am _ 0=_ from (by first|rfl|(simp (disch:=first|decide|assumption) only [lk])))) Bb))
 ·exact C9 hR rfl rfl
theorem jC (n:Nat) (a:Int) (b:List Ab) (c8:Bool) (c:List (List Ab)) (d f g:Int) {t:Wy} (R:AV→Mem→Prop) (hR:∀r:Wy,t=r→∀u m,C2 ((Ah r)) u m→R u m) (k:Nat) (x:Int) (hx:Bt (fun y:Int=>Lt n a b c8 c d f g y) k x=some t) {s:St} (hw:Cl KK 33 0 s (Tx a (As Ab.E b) c8 (As (Ct Ab.E) c) d x f g [])):C6 pg KK 33 0 (.loop cM) s (dL R):=
 Ada R (σ:=Nat×(Int)) (fun z=>Bt (fun y:Int=>Lt n a b c8 c d f g y) z.1 z.2=some t) (fun z=>a) (fun z=>(As Ab.E b)) (fun z=>c8) (fun z=>(As (Ct Ab.E) c)) (fun z=>d) (fun z=>z.2) (fun z=>f) (fun z=>g) (fun z=>[]) (fun z=>z.1) (by
  rintro ⟨k,y⟩ h
  cases k with
  |zero=>exact (Cz h).elim
  |succ k=>
   obtain ⟨u,i,j,l⟩:=Cv h
   exact lM n a b c8 c d f g y R _ (fun r e=>hR r (l _ e).symm) (fun y' e s' hw=>⟨(k,y'),j _ e,Nat.lt_succ_self k,hw⟩) i) (k,x) hx hw
theorem Abk (n:Nat) (b:List (List Ab)) (c:Int) (d:List Ab) (a:Ea) {t:Wy} (R:AV→Mem→Prop) (hR:∀r:Wy,t=r→∀u m,C2 ((Ah r)) u m→R u m):g10 n b c d a=some t→F10 (As (Ct Ab.E) b) c (As Ab.E d) a.Bu a.Bj R:=by
 unfold g10 F10
 refine iq (Aa (b.length:Int)) rfl ?_
 refine imp Ai ?_
 exact fun hg=>jC n c d false b (b.length:Int) a.Bu a.Bj R hR n _ hg (Bc [(0,0)] rfl rfl rfl (oR (A9 (Bz (E:=Ab.E) _ false) (oR (oR (A9 (Bz (E:=(Ct Ab.E)) _ false) (oR (oR Bn))))))) (Ao (Aw (cs:=[Aa a.Bu,Aa a.Bj]) (ty:=24) rfl (show Am _ 0=_ from (by first|rfl|(simp (disch:=first|decide|assumption) only [lk])))) Bb))
theorem Afc {n:Nat} {b:List (List Ab)} {c:Int} {d:List Ab} {a:Ea} {t:Wy} (h:g10 n b c d a=some t):Dc pg KK.gl 10 [As (Ct Ab.E) b,Aa c,As Ab.E d,AV.agg [Aa a.Bu,Aa a.Bj]] ((Ah t)):=
 A1 (by first|rfl|simp [Av,clean,Al,En.Di]) (by first|rfl|simp [Av,clean,Al,En.Di]) (uA (As (Ct Ab.E) b) c (As Ab.E d) a.Bu a.Bj _ (Abk n b c d a (C2 ((Ah t))) (fun r e u m h=>by rw [e];exact h) h))
end Go.Proofs.YtmhnnmfcjdnlhaaGreatDoor
