/- Parts X1E9, X1E10, RzO. -/
import Derived.Test.YtkdodbfnocdkdaaGreatDoorX1S
import Derived.Test.YtkdodbfnocdkdaaGreatDoorX1E8
set_option linter.unusedVariables false
set_option linter.unusedSimpArgs false
set_option maxRecDepth 100000
set_option maxHeartbeats 4000000
namespace Go.Proofs.YtkdodbfnocdkdaaGreatDoor
variable {R:AV→Mem→Prop} {N0 N1 N2 N3:St→Prop}
theorem Apx (n:Nat) (d:ByteArray) {t:ρ8} (hR:E5 t (fun r=>Dv ((AV.Bn [AV.agg (Ae.E.enc r.1),Ai r.2.1,Aa r.2.2]))) R):g8 n d=some t→F8 d R:=by
 unfold g8 F8
 exact iq (Aa (d.size:Int)) B7<|ei<|cb (iq (AV.agg [An (⟨#[]⟩:ByteArray),Aa (0),Aa (0),An (⟨#[]⟩:ByteArray)]) rfl<|imp (Ba (sz:=4) B7 B7 rfl rfl (cs:=[An (⟨#[]⟩:ByteArray),Aa (0),Aa (0),An (⟨#[]⟩:ByteArray)]) (cs':=[An (⟨#[]⟩:ByteArray),Aa (0),Aa (0),An (⟨#[]⟩:ByteArray)]) (ty:=30) Bv rfl rfl)<|rN rfl hR rfl rfl (Bd (El (E:=Ae.E) _ (⟨(⟨#[]⟩:ByteArray),0,0,(⟨#[]⟩:ByteArray)⟩:Ae)) (fS (fS Bs))))<|bS Aq7 fun k=>iq (Aa (k.length:Int)) rfl<|ei<|cb (iq (AV.agg [An (⟨#[]⟩:ByteArray),Aa (0),Aa (0),An (⟨#[]⟩:ByteArray)]) rfl<|imp (Ba (sz:=4) B7 B7 rfl rfl (cs:=[An (⟨#[]⟩:ByteArray),Aa (0),Aa (0),An (⟨#[]⟩:ByteArray)]) (cs':=[An (⟨#[]⟩:ByteArray),Aa (0),Aa (0),An (⟨#[]⟩:ByteArray)]) (ty:=30) Bv rfl rfl)<|rN rfl hR rfl rfl (Bd (El (E:=Ae.E) _ (⟨(⟨#[]⟩:ByteArray),0,0,(⟨#[]⟩:ByteArray)⟩:Ae)) (fS (fS Bs))))<|Ax fun e l=>imp (Dr (show _=some ((AV.Cq [An e] 0),[]) from (Cc (E:=L8) rfl l)))<|imp (Dr (show _=some ((An e),[]) from rfl))<|es<|Ax fun f m=>imp (Dr (show _=some ((AV.Cq [An f] 0),[]) from (Cc (E:=L8) rfl m)))<|imp (Dr (show _=some ((An f),[]) from rfl))<|es<|Ax fun g o=>imp (Dr (show _=some ((AV.Cq [An g] 0),[]) from (Cc (E:=L8) rfl o)))<|imp (Dr (show _=some ((An g),[]) from rfl))<|es<|Ax fun a p=>imp (Jw (Apa p))<|et<|e4<|es<|ei<|ei<|es<|eb<|imp (Ba (sz:=4) B7 B7 rfl rfl (cs:=[An (⟨#[]⟩:ByteArray),Aa (0),Aa (0),An (⟨#[]⟩:ByteArray)]) (cs':=[An a.1.Call,Aa a.1.Kind,Aa a.1.Value,An a.1.Fix]) (ty:=30) (by first|rfl|(rw [Fo (by first|rfl|simp [Fp]|simp [A3])];first|rfl|(simp (disch:=first|decide|assumption) only [lk]))) rfl rfl)<|imp (Dm B7)<|cb (Ax fun h q=>imp (Dr (show _=some ((AV.Cq [An h] 0),[]) from (Cc (E:=L8) rfl q)))<|imp (Dr (show _=some ((An h),[]) from rfl))<|es<|Ax fun i s=>imp (Dr (show _=some ((AV.Cq [An i] 0),[]) from (Cc (E:=L8) rfl s)))<|imp (Dr (show _=some ((An i),[]) from rfl))<|es<|Ax fun j u=>imp (Dr (show _=some ((AV.Cq [An j] 0),[]) from (Cc (E:=L8) rfl u)))<|imp (Dr (show _=some ((An j),[]) from rfl))<|es<|Ax fun c v=>imp (Jw (Apa v))<|et<|e4<|es<|ei<|ei<|es<|eb<|imp (Ba (sz:=4) B7 B7 rfl rfl (cs:=[An a.1.Call,Aa a.1.Kind,Aa a.1.Value,An a.1.Fix]) (cs':=[An c.1.Call,Aa c.1.Kind,Aa c.1.Value,An c.1.Fix]) (ty:=30) (by first|rfl|(rw [Fo (by first|rfl|simp [Fp]|simp [A3])];first|rfl|(simp (disch:=first|decide|assumption) only [lk]))) rfl rfl)<|imp (Dm B7)<|cb (iq (AV.agg [An (⟨#[]⟩:ByteArray),Aa (0),Aa (0),An (⟨#[]⟩:ByteArray)]) rfl<|imp (Ba (sz:=4) B7 B7 rfl rfl (cs:=[An (⟨#[]⟩:ByteArray),Aa (0),Aa (0),An (⟨#[]⟩:ByteArray)]) (cs':=[An (⟨#[]⟩:ByteArray),Aa (0),Aa (0),An (⟨#[]⟩:ByteArray)]) (ty:=30) Bv rfl rfl)<|rN rfl hR rfl rfl (Bd (El (E:=Ae.E) _ (⟨(⟨#[]⟩:ByteArray),0,0,(⟨#[]⟩:ByteArray)⟩:Ae)) (fS (fS Bs))))<|iq (AV.agg [An c.1.Call,Aa c.1.Kind,Aa c.1.Value,An c.1.Fix]) (C2 (b:=⟨[An c.1.Call,Aa c.1.Kind,Aa c.1.Value,An c.1.Fix],30⟩) Bv rfl)<|e4<|es<|ei<|ei<|es<|bS jD fun w=>ei<|cb (iq (AV.agg [An (⟨#[]⟩:ByteArray),Aa (0),Aa (0),An (⟨#[]⟩:ByteArray)]) rfl<|imp (Ba (sz:=4) B7 B7 rfl rfl (cs:=[An (⟨#[]⟩:ByteArray),Aa (0),Aa (0),An (⟨#[]⟩:ByteArray)]) (cs':=[An (⟨#[]⟩:ByteArray),Aa (0),Aa (0),An (⟨#[]⟩:ByteArray)]) (ty:=30) Bv rfl rfl)<|rN rfl hR rfl rfl (Bd (El (E:=Ae.E) _ (⟨(⟨#[]⟩:ByteArray),0,0,(⟨#[]⟩:ByteArray)⟩:Ae)) (fS (fS Bs))))<|iq (AV.agg [An c.1.Call,Aa c.1.Kind,Aa c.1.Value,An c.1.Fix]) (C2 (b:=⟨[An c.1.Call,Aa c.1.Kind,Aa c.1.Value,An c.1.Fix],30⟩) Bv rfl)<|e4<|es<|ei<|ei<|es<|imp (Ba (sz:=4) B7 B7 rfl rfl (cs:=[An (⟨#[]⟩:ByteArray),Aa (0),Aa (0),An (⟨#[]⟩:ByteArray)]) (cs':=[An c.1.Call,Aa c.1.Kind,Aa c.1.Value,An c.1.Fix]) (ty:=30) Bv rfl rfl)<|rN rfl hR rfl rfl (Bd (El (E:=Ae.E) _ c.1) (fS (fS Bs))))<|cb (iq (AV.agg [An (⟨#[]⟩:ByteArray),Aa (0),Aa (0),An (⟨#[]⟩:ByteArray)]) rfl<|imp (Ba (sz:=4) B7 B7 rfl rfl (cs:=[An (⟨#[]⟩:ByteArray),Aa (0),Aa (0),An (⟨#[]⟩:ByteArray)]) (cs':=[An (⟨#[]⟩:ByteArray),Aa (0),Aa (0),An (⟨#[]⟩:ByteArray)]) (ty:=30) Bv rfl rfl)<|rN rfl hR rfl rfl (Bd (El (E:=Ae.E) _ (⟨(⟨#[]⟩:ByteArray),0,0,(⟨#[]⟩:ByteArray)⟩:Ae)) (fS (fS Bs))))<|iq (AV.agg [An a.1.Call,Aa a.1.Kind,Aa a.1.Value,An a.1.Fix]) (C2 (b:=⟨[An a.1.Call,Aa a.1.Kind,Aa a.1.Value,An a.1.Fix],30⟩) Bv rfl)<|e4<|es<|ei<|ei<|es<|bS jD fun x=>ei<|cb (iq (AV.agg [An (⟨#[]⟩:ByteArray),Aa (0),Aa (0),An (⟨#[]⟩:ByteArray)]) rfl<|imp (Ba (sz:=4) B7 B7 rfl rfl (cs:=[An (⟨#[]⟩:ByteArray),Aa (0),Aa (0),An (⟨#[]⟩:ByteArray)]) (cs':=[An (⟨#[]⟩:ByteArray),Aa (0),Aa (0),An (⟨#[]⟩:ByteArray)]) (ty:=30) Bv rfl rfl)<|rN rfl hR rfl rfl (Bd (El (E:=Ae.E) _ (⟨(⟨#[]⟩:ByteArray),0,0,(⟨#[]⟩:ByteArray)⟩:Ae)) (fS (fS Bs))))<|iq (AV.agg [An a.1.Call,Aa a.1.Kind,Aa a.1.Value,An a.1.Fix]) (C2 (b:=⟨[An a.1.Call,Aa a.1.Kind,Aa a.1.Value,An a.1.Fix],30⟩) Bv rfl)<|e4<|es<|ei<|ei<|es<|imp (Ba (sz:=4) B7 B7 rfl rfl (cs:=[An (⟨#[]⟩:ByteArray),Aa (0),Aa (0),An (⟨#[]⟩:ByteArray)]) (cs':=[An a.1.Call,Aa a.1.Kind,Aa a.1.Value,An a.1.Fix]) (ty:=30) Bv rfl rfl)<|rN rfl hR rfl rfl (Bd (El (E:=Ae.E) _ a.1) (fS (fS Bs)))
theorem sg8 {n:Nat} {a:ByteArray} {t:ρ8} (h:g8 n a=some t):Ci pg KK.gl 8 [An a] ((AV.Bn [AV.agg (Ae.E.enc t.1),Ai t.2.1,Aa t.2.2])):=
 sF Tryz.func8 (Apx n a Fb h)
theorem Aeg (n:Nat) (b:List Ah) (c:Int) {t:zR} (hR:E5 t (fun r=>Dv ((Ai r))) R):iS n b c=some t→Apc (Ar Ah.E b) c R:=by
 unfold iS Apc
 exact cr hR<|cr hR<|iq (Aa (b.length:Int)) rfl<|ei<|cb (iq (Aa (b.length:Int)) rfl<|ei<|Ax fun a d=>iq (AV.Cq [An a.Av,Aa a.Aq,Aa a.Am,An a.Ay,Aa a.Time] 0) (Cc (E:=Ah.E) rfl d)<|iq (AV.Cq [An a.Av,Aa a.Aq,Aa a.Am,An a.Ay,Aa a.Time] 4) rfl<|iq (Aa a.Time) rfl<|ei<|rt hR)<|rt hR
theorem Af7 {n:Nat} {a:List Ah} {b:Int} {t:zR} (h:iS n a b=some t):Ci pg KK.gl 127 [Ar Ah.E a,Aa b] ((Ai t)):=
 sF Tryz.func127 (Aeg n a b Fb h)
theorem Adj (n:Nat) (a:Ah) (b:ByteArray) (c d:Int) (e:ByteArray) {t:tS} (hR:E5 t (fun r=>Dv ((Ai r))) R):qI n a b c d e=some t→Aph a.Av a.Aq a.Am a.Ay a.Time (AV.Cq [An b,Aa c,Aa d,An e] 0) R:=by
 unfold qI Aph
 exact iq (AV.Cq [An b,Aa c,Aa d,An e] 0) rfl<|iq (An b) rfl<|es<|cb (iq (AV.Cq [An b,Aa c,Aa d,An e] 1) rfl<|iq (Aa c) rfl<|ei<|rt hR)<|rt hR
theorem Alw {n:Nat} {a:Ah} {b:ByteArray} {c:Int} {d:Int} {e:ByteArray} {t:tS} (h:qI n a b c d e=some t):Ci pg KK.gl 129 [AV.agg [An a.Av,Aa a.Aq,Aa a.Am,An a.Ay,Aa a.Time],AV.Cq [An b,Aa c,Aa d,An e] 0] ((Ai t)):=
 sF Tryz.func129 (Adj n a b c d e Fb h)
theorem oQ (n:Nat) (b:List Ah) (c:ByteArray) (d e:Int) (f:ByteArray) (g c7 h:Int) {t:(Int)⊕eG} (hR:O8 t (fun r=>Dv ((Aa r))) R) (hN0:K3 19 t (fun y=>Ak7 (Ar Ah.E b) (AV.fn 129 [AV.Cq [An c,Aa d,Aa e,An f] 0]) g c7 y []) N0):Rz n b c d e f g c7 h=some t→qU (Ar Ah.E b) (AV.fn 129 [AV.Cq [An c,Aa d,Aa e,An f] 0]) g c7 h [] R N0:=by
 unfold Rz qU
 exact cb (Ax fun a i=>iq (AV.Cq [An a.Av,Aa a.Aq,Aa a.Am,An a.Ay,Aa a.Time] 0) (Cc (E:=Ah.E) rfl i)<|iq (AV.agg [An a.Av,Aa a.Aq,Aa a.Am,An a.Ay,Aa a.Time]) rfl<|imp wL<|es<|ei<|ei<|es<|ei<|Ax fun k j=>imp G7<|imp (Je rfl)<|imp (G5 (Alw j))<|eb<|cr hR<|nN hN0 rfl (wM []))<|rt hR
theorem Abm (n:Nat) (a:List Ah) (b:ByteArray) (c d:Int) (e:ByteArray) {t:eG} (hR:E5 t (fun r=>Dv ((Aa r))) R):vE n a b c d e=some t→Amx (Ar Ah.E a) (AV.fn 129 [AV.Cq [An b,Aa c,Aa d,An e] 0]) R:=by
 unfold vE Amx
 exact iq (Aa (a.length:Int)) rfl<|ei<|fun hg=>Kc hg (fun y _ _ g=>oQ n a b c d e (0) (a.length:Int) y (Nr hR g)) (wM [])
theorem Ank {n:Nat} {a:List Ah} {b:ByteArray} {c:Int} {d:Int} {e:ByteArray} {t:eG} (h:vE n a b c d e=some t):Ci pg KK.gl 128 [Ar Ah.E a,AV.fn 129 [AV.Cq [An b,Aa c,Aa d,An e] 0]] ((Aa t)):=
 sF Tryz.func128 (Abm n a b c d e Fb h)
theorem Ak6 (n:Nat) (b:List Ah) (a:Ae) {t:Aj9} (hR:E5 t (fun r=>Dv ((Aa r))) R):g52 n b a=some t→F52 (Ar Ah.E b) a.Call a.Kind a.Value a.Fix R:=by
 unfold g52 F52
 exact Ax fun d c=>imp (G8 (E1 (A7 (Rx (E:=Ah.E) _ _ false) (A7 (dC _ _ (A7 (Nw _ (ty:=30) (us:=[An a.Call,Aa a.Kind,Aa a.Value,An a.Fix]) Bv (A7 (Di _ _) (A7 (Di _ _) (A7 (Di _ _) (A7 (Di _ _) C0))))) C0)) C0)) (Ank c) rfl))<|ei<|rt hR
theorem Ajh {n:Nat} {b:List Ah} {a:Ae} {t:Aj9} (h:g52 n b a=some t):Ci pg KK.gl 52 [Ar Ah.E b,AV.agg [An a.Call,Aa a.Kind,Aa a.Value,An a.Fix]] ((Aa t)):=
 sF Tryz.func52 (Ak6 n b a Fb h)
theorem nD (n:Nat) (b:List Ah) (c O2 d:Int) {t:(Int)⊕fJ} (hR:O8 t (fun r=>Dv ((Aa r))) R) (hN0:K3 38 t (fun y=>Aiz (Ar Ah.E b) c (Ar Ah.E b) O2 y []) N0):Sx n b c O2 d=some t→Aa1 (Ar Ah.E b) c (Ar Ah.E b) O2 d [] R N0:=by
 unfold Sx Aa1
 exact cb (Ax fun a f=>iq (AV.Cq [An a.Av,Aa a.Aq,Aa a.Am,An a.Ay,Aa a.Time] 0) (Cc (E:=Ah.E) rfl f)<|iq (AV.agg [An a.Av,Aa a.Aq,Aa a.Am,An a.Ay,Aa a.Time]) rfl<|imp wL<|es<|ei<|ei<|es<|ei<|bS jD fun k=>ei<|cr hR<|Ax fun g h=>iq (Ar Ah.E g) (wY (E:=Ah.E) (e:=159) B7 B7 rfl h)<|bS Af7 fun l=>eb<|cr hR<|Ax fun i j=>iq (Ar Ah.E i) (wY (E:=Ah.E) (e:=159) B7 B7 rfl j)<|bS Ajh fun m=>ei<|cr hR<|nN hN0 rfl (wM []))<|rt hR
theorem Abc (n:Nat) (a:List Ah) {t:fJ} (hR:E5 t (fun r=>Dv ((Aa r))) R):nA n a=some t→Al6 (Ar Ah.E a) R:=by
 unfold nA Al6
 exact iq (Aa (a.length:Int)) rfl<|ei<|cr hR<|iq (Aa (a.length:Int)) rfl<|ei<|fun hg=>Kc hg (fun y _ _ g=>nD n a (0) (a.length:Int) y (Nr hR g)) (wM [])
theorem Aof {n:Nat} {a:List Ah} {t:fJ} (h:nA n a=some t):Ci pg KK.gl 126 [Ar Ah.E a] ((Aa t)):=
 sF Tryz.func126 (Abc n a Fb h)
theorem Aik (n:Nat) (b:List Ah) (a:Ae) (c:Int) {t:Aj8} (hR:E5 t (fun r=>Dv ((Aa r))) R):g50 n b a c=some t→F50 (Ar Ah.E b) a.Call a.Kind a.Value a.Fix c R:=by
 unfold g50 F50
 exact bS Aof fun d=>ei<|cr hR<|bS jD fun e=>ei<|cr hR<|bS Af7 fun f=>eb<|cr hR<|rt hR
theorem Apn {n:Nat} {b:List Ah} {a:Ae} {c:Int} {t:Aj8} (h:g50 n b a c=some t):Ci pg KK.gl 50 [Ar Ah.E b,AV.agg [An a.Call,Aa a.Kind,Aa a.Value,An a.Fix],Aa c] ((Aa t)):=
 sF Tryz.func50 (Aik n b a c Fb h)
theorem Aom (n:Nat) (d:List Ah) (a:Ae) (c:Int) {t:ρ9} (hR:E5 t (fun r=>Dv ((AV.Bn [Ar Ah.E r.1,Aa r.2]))) R):g9 n d a c=some t→F9 (Ar Ah.E d) a.Call a.Kind a.Value a.Fix c R:=by
 unfold g9 F9
 exact bS Apn fun k=>ei<|cb (rN rfl hR rfl rfl (Bd (Du (E:=Ah.E) _) (fS Bs)))<|Ax fun l f=>imp (Ea (show Dq _ _ _ _ _ _ (Bh Ah.E 74 d) [(74,Cn Ah.E 159 d)] from cZ f))<|iq (AV.agg [An a.Call,Aa a.Kind,Aa a.Value,An a.Fix]) (C2 (b:=⟨[An a.Call,Aa a.Kind,Aa a.Value,An a.Fix],30⟩) Bv rfl)<|e4<|es<|ei<|ei<|es<|Ax fun m g=>imp (G8 (E1 (A7 (Lz (E:=Ah.E) (ty:=159) (l':=d) _ Ah.nf rfl Bv) (A7 (Zg _ (A7 (Di _ _) (A7 (Di _ _) (A7 (Di _ _) (A7 (Di _ _) C0))))) C0)) (Ajh g) rfl))<|ei<|cb (Ax fun e h=>imp (Ea (show Dq _ _ _ _ _ _ (Nh Ah.E 212 e) [(212,some ⟨A0 Ah.E e,159⟩),(74,none)] from Afc rfl Bv h))<|iq (Aa (e.length:Int)) (Aij rfl)<|ei<|cb (rN rfl hR rfl rfl (Bd (Du (E:=Ah.E) _) (fS Bs)))<|iq (AV.agg [An a.Call,Aa a.Kind,Aa a.Value,An a.Fix]) (C2 (b:=⟨[An a.Call,Aa a.Kind,Aa a.Value,An a.Fix],30⟩) Bv rfl)<|e4<|es<|ei<|ei<|es<|iq (AV.agg [An a.Call,Aa a.Kind,Aa a.Value,An a.Fix,Aa c]) rfl<|imp (Cz (show _=some ((Hk Ah.E 284 ([(⟨a.Call,a.Kind,a.Value,a.Fix,c⟩:Ah)]:List Ah)),[(284,some ⟨A0 Ah.E ([(⟨a.Call,a.Kind,a.Value,a.Fix,c⟩:Ah)]:List Ah),159⟩)]) from rfl))<|Ax fun o i=>imp (Cz (show _=some ((Bh Ah.E 285 (e++([(⟨a.Call,a.Kind,a.Value,a.Fix,c⟩:Ah)]:List Ah))),[(285,Cn Ah.E 159 (e++([(⟨a.Call,a.Kind,a.Value,a.Fix,c⟩:Ah)]:List Ah))),(212,none)]) from (Aic (E:=Ah.E) (l':=e) (xs:=([(⟨a.Call,a.Kind,a.Value,a.Fix,c⟩:Ah)]:List Ah)) rfl rfl (Ed (E:=Ah.E) (ty:=159) rfl rfl Bv) qB rfl Bv i)))<|rN rfl hR rfl rfl (Bd (P5 (E:=Ah.E) (ty:=159) (l':=(e++([(⟨a.Call,a.Kind,a.Value,a.Fix,c⟩:Ah)]:List Ah))) _ rfl Bv) (fS Bs)))<|imp (B6 (show _=some ((Aa (d.length:Int)),[]) from Gx))<|ei<|cb (rN rfl hR rfl rfl (Bd (Du (E:=Ah.E) _) (fS Bs)))<|iq (AV.agg [An a.Call,Aa a.Kind,Aa a.Value,An a.Fix]) (C2 (b:=⟨[An a.Call,Aa a.Kind,Aa a.Value,An a.Fix],30⟩) Bv rfl)<|e4<|es<|ei<|ei<|es<|iq (AV.agg [An a.Call,Aa a.Kind,Aa a.Value,An a.Fix,Aa c]) rfl<|imp (Cz (show _=some ((Hk Ah.E 215 ([(⟨a.Call,a.Kind,a.Value,a.Fix,c⟩:Ah)]:List Ah)),[(215,some ⟨A0 Ah.E ([(⟨a.Call,a.Kind,a.Value,a.Fix,c⟩:Ah)]:List Ah),159⟩)]) from rfl))<|Ax fun p j=>imp (Cz (show _=some ((Bh Ah.E 216 (d++([(⟨a.Call,a.Kind,a.Value,a.Fix,c⟩:Ah)]:List Ah))),(Jf Ah.E 216 74 159 d ([(⟨a.Call,a.Kind,a.Value,a.Fix,c⟩:Ah)]:List Ah))) from (H6 (E:=Ah.E) (l':=d) (xs:=([(⟨a.Call,a.Kind,a.Value,a.Fix,c⟩:Ah)]:List Ah)) rfl rfl (Ed (E:=Ah.E) (ty:=159) rfl rfl Bv) qB rfl (fun hne=>Eq.trans Bv (C7 hne)) j)))<|rN rfl hR rfl rfl (Bd (P5 (E:=Ah.E) (ty:=159) (l':=(d++([(⟨a.Call,a.Kind,a.Value,a.Fix,c⟩:Ah)]:List Ah))) _ rfl Bv) (fS Bs))
theorem sg9 {n:Nat} {b:List Ah} {a:Ae} {c:Int} {t:ρ9} (h:g9 n b a c=some t):Ci pg KK.gl 9 [Ar Ah.E b,AV.agg [An a.Call,Aa a.Kind,Aa a.Value,An a.Fix],Aa c] ((AV.Bn [Ar Ah.E t.1,Aa t.2])):=
 sF Tryz.func9 (Aom n b a c Fb h)
theorem Ahm (n:Nat) (d:List Ah) (c:Ae) (f:Int) {t:Ajs} (hR:E5 t (fun r=>Dv ((AV.Bn [Ar Ah.E r.1,Aa r.2]))) R):g10 n d c f=some t→F10 (Ar Ah.E d) c.Call c.Kind c.Value c.Fix f R:=by
 unfold g10 F10
 exact bS Apn fun k=>ei<|cb (rN rfl hR rfl rfl (Bd (Du (E:=Ah.E) _) (fS Bs)))<|bS Ajh fun l=>ei<|cb (rN rfl hR rfl rfl (Bd (Du (E:=Ah.E) _) (fS Bs)))<|Ax fun b g=>iq (AV.Cq [An b.Av,Aa b.Aq,Aa b.Am,An b.Ay,Aa b.Time] 0) (Cc (E:=Ah.E) rfl g)<|iq (AV.Cq [An b.Av,Aa b.Aq,Aa b.Am,An b.Ay,Aa b.Time] 4) rfl<|iq (Aa b.Time) rfl<|ei<|cb (rN rfl hR rfl rfl (Bd (Du (E:=Ah.E) _) (fS Bs)))<|Ax fun a h=>iq (AV.Cq [An a.Av,Aa a.Aq,Aa a.Am,An a.Ay,Aa a.Time] 0) (Cc (E:=Ah.E) rfl h)<|iq (AV.Cq [An a.Av,Aa a.Aq,Aa a.Am,An a.Ay,Aa a.Time] 0) rfl<|iq (AV.agg [An a.Av,Aa a.Aq,Aa a.Am,An a.Ay]) rfl<|e4<|es<|ei<|ei<|es<|iq (Ai (!(decide ((⟨a.Av,a.Aq,a.Am,a.Ay⟩:Ae)=c)))) (Ae.Aln ((⟨a.Av,a.Aq,a.Am,a.Ay⟩:Ae)) (c))<|eb<|cb (rN rfl hR rfl rfl (Bd (Du (E:=Ah.E) _) (fS Bs)))<|Ax fun m i=>imp (Ea (show Dq _ _ _ _ _ _ (Bh Ah.E 161 d) [(161,Cn Ah.E 159 d)] from cZ i))<|Ax fun e j=>imp (Ea (show Dq _ _ _ _ _ _ (Nh Ah.E 228 e) [(228,some ⟨A0 Ah.E e,159⟩),(161,none)] from Afc rfl Bv j))<|rN rfl hR rfl rfl (Bd (Aob (E:=Ah.E) (ty:=159) (l':=e) _ rfl Bv) (fS Bs))
theorem Aq6 {n:Nat} {b:List Ah} {a:Ae} {c:Int} {t:Ajs} (h:g10 n b a c=some t):Ci pg KK.gl 10 [Ar Ah.E b,AV.agg [An a.Call,Aa a.Kind,Aa a.Value,An a.Fix],Aa c] ((AV.Bn [Ar Ah.E t.1,Aa t.2])):=
 sF Tryz.func10 (Ahm n b a c Fb h)
theorem xX (n:Nat) (a:Int) (b:List Int) (c7 c:Int) {t:(Int)⊕uA} (hR:O8 t (fun r=>Dv ((Aa r))) R) (hN0:K3 18 t (fun y=>An6 a a (Ar Lc b) c7 y []) N0):Nk n a b c7 c=some t→Af3 a a (Ar Lc b) c7 c [] R N0:=by
 unfold Nk Af3
 exact cb (Ax fun d e=>iq (AV.Cq [Aa d] 0) (Cc (E:=Lc) rfl e)<|iq (Aa d) rfl<|ei<|cr hR<|nN hN0 rfl (wM []))<|rt hR
theorem Aji (n:Nat) (a:List Int) {t:uA} (hR:E5 t (fun r=>Dv ((Aa r))) R):g69 n a=some t→F69 (Ar Lc a) R:=by
 unfold g69 F69
 exact iq (Aa (a.length:Int)) rfl<|ei<|fun hg=>Kc hg (fun y _ _ g=>xX n (0) a (a.length:Int) y (Nr hR g)) (wM [])
theorem Asm {n:Nat} {a:List Int} {t:uA} (h:g69 n a=some t):Ci pg KK.gl 69 [Ar Lc a] ((Aa t)):=
 sF Tryz.func69 (Aji n a Fb h)
theorem Ahy (n:Nat) (a b:Ao) {t:Ajk} (hR:E5 t (fun r=>Dv ((Aa r))) R):Yp n a b=some t→F68 a.A a.B a.Cs a.To b.A b.B b.Cs b.To R:=by
 unfold Yp F68
 exact imp (Cz (show _=some ((Hk Lc 18 ([IntKind.wrap .i64 (a.Cs-b.Cs),IntKind.wrap .i64 (a.A-b.A),IntKind.wrap .i64 (a.B-b.B)]:List Int)),[(18,some ⟨A0 Lc ([IntKind.wrap .i64 (a.Cs-b.Cs),IntKind.wrap .i64 (a.A-b.A),IntKind.wrap .i64 (a.B-b.B)]:List Int),3⟩)]) from rfl))<|Ax fun d c=>imp (G8 (E1 (A7 (iP (E:=Lc) (ty:=3) (l':=([IntKind.wrap .i64 (a.Cs-b.Cs),IntKind.wrap .i64 (a.A-b.A),IntKind.wrap .i64 (a.B-b.B)]:List Int)) _ Lc.nf rfl Bv) C0) (Asm c) rfl))<|ei<|rt hR
theorem Aoh {n:Nat} {a:Ao} {b:Ao} {t:Ajk} (h:Yp n a b=some t):Ci pg KK.gl 68 [AV.agg [Aa a.A,Aa a.B,Aa a.Cs,Aa a.To],AV.agg [Aa b.A,Aa b.B,Aa b.Cs,Aa b.To]] ((Aa t)):=
 sF Tryz.func68 (Ahy n a b Fb h)
theorem aJ (n:Nat) (e:List (List Ab)) (c5 b c c28:Int) (h:List Bq) (lQ f g u51:Int) (d:List Ao) {t:(Int×List Ao)⊕((Int×List Ao)⊕((Int×List Ao)⊕Qy))} (hR:HR3 t (fun r=>Dv ((AV.Bn [Ar Ao.E r.1,Aa r.2]))) R) (hN0:HN2 74 t (fun y=>W5 (Ar (Cr Ab.E) e) AV.Bg c5 (Bh Ao.E 90000 y.2) c28 y.1 f g [(90000,Cn Ao.E 53 y.2)]) N0) (hN1:pY 74 t (fun y=>T8 (Ar (Cr Ab.E) e) AV.Bg c5 (Bh Ao.E 90000 y.2) b y.1 c28 b f g [(90000,Cn Ao.E 53 y.2)]) N1) (hN2:K3 74 t (fun y=>Wz (Ar (Cr Ab.E) e) AV.Bg c5 (Bh Ao.E 90000 y.2) b c c28 b (Ar Bq.E h) lQ y.1 f g [(90000,Cn Ao.E 53 y.2)]) N2):Gt n e c5 b c c28 h lQ f g u51 d=some t→Oo (Ar (Cr Ab.E) e) AV.Bg c5 (Bh Ao.E 90000 d) b c c28 b (Ar Bq.E h) lQ u51 f g [(90000,Cn Ao.E 53 d)] R N0 N1 N2:=by
 unfold Gt Oo
 exact cb (Ax fun a i=>iq (AV.Cq [Aa a.Cs,Aa a.To] 0) (Cc (E:=Bq.E) rfl i)<|iq (AV.agg [Aa a.Cs,Aa a.To]) rfl<|e2<|ei<|ei<|iq (AV.agg [Aa b,Aa c,Aa a.Cs,Aa (IntKind.wrap .i64 (a.To-(1)))]) rfl<|imp (Cz (show _=some ((Hk Ao.E 300014 ([(⟨b,c,a.Cs,IntKind.wrap .i64 (a.To-(1))⟩:Ao)]:List Ao)),[(300014,some ⟨A0 Ao.E ([(⟨b,c,a.Cs,IntKind.wrap .i64 (a.To-(1))⟩:Ao)]:List Ao),53⟩)]) from rfl))<|Ax fun k j=>imp (Cz (show _=some ((Bh Ao.E 300015 (d++([(⟨b,c,a.Cs,IntKind.wrap .i64 (a.To-(1))⟩:Ao)]:List Ao))),(Jf Ao.E 300015 90000 53 d ([(⟨b,c,a.Cs,IntKind.wrap .i64 (a.To-(1))⟩:Ao)]:List Ao))) from (H6 (E:=Ao.E) (l':=d) (xs:=([(⟨b,c,a.Cs,IntKind.wrap .i64 (a.To-(1))⟩:Ao)]:List Ao)) rfl rfl (Ed (E:=Ao.E) (ty:=53) rfl rfl Bv) qB rfl (fun hne=>Eq.trans Bv (C7 hne)) j)))<|nN hN2 rfl (wM [(90000,300015),(0,0)]))<|nN hN1 rfl (wM [(90000,90000),(0,0)])
theorem gZ (n:Nat) (a:List (List Ab)) (c5 b c28 c d e:Int) (f:List Ao) {t:(Int×List Ao)⊕((Int×List Ao)⊕Qy)} (hR:HR2 t (fun r=>Dv ((AV.Bn [Ar Ao.E r.1,Aa r.2]))) R) (hN0:pY 74 t (fun y=>W5 (Ar (Cr Ab.E) a) AV.Bg c5 (Bh Ao.E 90000 y.2) c28 y.1 c d [(90000,Cn Ao.E 53 y.2)]) N0) (hN1:K3 74 t (fun y=>T8 (Ar (Cr Ab.E) a) AV.Bg c5 (Bh Ao.E 90000 y.2) b y.1 c28 b c d [(90000,Cn Ao.E 53 y.2)]) N1):Iw n a c5 b c28 c d e f=some t→Ub (Ar (Cr Ab.E) a) AV.Bg c5 (Bh Ao.E 90000 f) b e c28 b c d [(90000,Cn Ao.E 53 f)] R N0 N1:=by
 unfold Iw Ub
 exact iq (Aa (a.length:Int)) rfl<|ei<|cb (Ax fun i k=>iq (AV.Cq [Ar Ab.E i] 0) (Cc (E:=(Cr Ab.E)) rfl k)<|iq (Ar Ab.E i) rfl<|Ax fun j l=>iq (AV.Cq [Ar Ab.E j] 0) (Cc (E:=(Cr Ab.E)) rfl l)<|iq (Ar Ab.E j) rfl<|bS Aih fun h=>iq (Aa (h.length:Int)) rfl<|ei<|fun hg=>Kc hg (fun y _ _ g=>aJ n a c5 b e c28 h (h.length:Int) c d y.1 y.2 (gR2 hR g) (gN1 hN0 g) (gN0 hN1 g)) (wM [(90000,90000),(0,0)]))<|nN hN0 rfl (wM [(90000,90000),(0,0)])
theorem Aaa (n:Nat) (b:List (List Ab)) (c5 c28 c d e:Int) (a:List Ao) {t:(Int×List Ao)⊕Qy} (hR:O8 t (fun r=>Dv ((AV.Bn [Ar Ao.E r.1,Aa r.2]))) R) (hN0:K3 74 t (fun y=>W5 (Ar (Cr Ab.E) b) AV.Bg c5 (Bh Ao.E 90000 y.2) c28 y.1 c d [(90000,Cn Ao.E 53 y.2)]) N0):Qq n b c5 c28 c d e a=some t→mO (Ar (Cr Ab.E) b) AV.Bg c5 (Bh Ao.E 90000 a) c28 e c d [(90000,Cn Ao.E 53 a)] R N0:=by
 unfold Qq mO
 refine cb (fun hg=>Kc hg (fun y _ _ g=>gZ n b c5 e c28 c d y.1 y.2 (gR1 hR g) (gN0 hN0 g)) (wM [(90000,90000),(0,0)]))<|imp (B6 (show _=some ((Aa (a.length:Int)),[]) from Gx))<|ei<|cb (rN rfl hR rfl rfl (Bd (Du (E:=Ao.E) _) (fS Bs)))<|Ax fun i f=> ?_
 have lh953:=R0 f
 exact imp (Ts (hx:=rfl) (E:=Ao.E) (ty:=53) (l:=a) (cmp:=(fun x y=>Yp n x y)) rfl Ao.ok lM wT lY rfl Bv Uh (fun x y z h=>Aoh h) f)<|imp Sf<|rN rfl hR rfl rfl (Bd (P5 (E:=Ao.E) (ty:=53) (l':=i) _ (by first|rfl|omega|(simp;done)|(simp;omega)) Bv) (fS Bs))
theorem Ak1 (n:Nat) (a:List (List Ab)) (b:Db) {t:Qy} (hR:E5 t (fun r=>Dv ((AV.Bn [Ar Ao.E r.1,Aa r.2]))) R):g12 n a b=some t→F12 (Ar (Cr Ab.E) a) b.Bf b.A9 R:=by
 unfold g12 F12
 exact bS Acs fun c=>ei<|cb (rN rfl hR rfl rfl (Bd (Du (E:=Ao.E) _) (fS Bs)))<|iq (Aa (a.length:Int)) rfl<|ei<|cb (rN rfl hR rfl rfl (Bd (Du (E:=Ao.E) _) (fS Bs)))<|bS Aky fun d=>ei<|cb (rN rfl hR rfl rfl (Bd (Du (E:=Ao.E) _) (fS Bs)))<|iq (Aa (a.length:Int)) rfl<|ei<|fun hg=>Kc hg (fun y _ _ g=>Aaa n a (0) (a.length:Int) b.Bf b.A9 y.1 y.2 (Nr hR g)) (wM [(90000,89500),(0,0)])
theorem Ary {n:Nat} {b:List (List Ab)} {a:Db} {t:Qy} (h:g12 n b a=some t):Ci pg KK.gl 12 [Ar (Cr Ab.E) b,AV.agg [Aa a.Bf,Aa a.A9]] ((AV.Bn [Ar Ao.E t.1,Aa t.2])):=
 sF Tryz.func12 (Ak1 n b a Fb h)
theorem Wc (n:Nat) (e:List (List Ab)) (c5 b c c28:Int) (h:List Bq) (lQ f g u51:Int) (d:List Ao) {t:(Int×List Ao)⊕((Int×List Ao)⊕((Int×List Ao)⊕Qy))} (hR:HR3 t (fun r=>Kk Ao.E 53 r.1 [Value.int .i64 r.2]) R) (hN0:HN2 74 t (fun y=>W5 (Ar (Cr Ab.E) e) AV.Bg c5 (Bh Ao.E 90000 y.2) c28 y.1 f g [(90000,Cn Ao.E 53 y.2)]) N0) (hN1:pY 74 t (fun y=>T8 (Ar (Cr Ab.E) e) AV.Bg c5 (Bh Ao.E 90000 y.2) b y.1 c28 b f g [(90000,Cn Ao.E 53 y.2)]) N1) (hN2:K3 74 t (fun y=>Wz (Ar (Cr Ab.E) e) AV.Bg c5 (Bh Ao.E 90000 y.2) b c c28 b (Ar Bq.E h) lQ y.1 f g [(90000,Cn Ao.E 53 y.2)]) N2):Gt n e c5 b c c28 h lQ f g u51 d=some t→Oo (Ar (Cr Ab.E) e) AV.Bg c5 (Bh Ao.E 90000 d) b c c28 b (Ar Bq.E h) lQ u51 f g [(90000,Cn Ao.E 53 d)] R N0 N1 N2:=by
 unfold Gt Oo
 exact cb (Ax fun a i=>iq (AV.Cq [Aa a.Cs,Aa a.To] 0) (Cc (E:=Bq.E) rfl i)<|iq (AV.agg [Aa a.Cs,Aa a.To]) rfl<|e2<|ei<|ei<|iq (AV.agg [Aa b,Aa c,Aa a.Cs,Aa (IntKind.wrap .i64 (a.To-(1)))]) rfl<|imp (Cz (show _=some ((Hk Ao.E 300014 ([(⟨b,c,a.Cs,IntKind.wrap .i64 (a.To-(1))⟩:Ao)]:List Ao)),[(300014,some ⟨A0 Ao.E ([(⟨b,c,a.Cs,IntKind.wrap .i64 (a.To-(1))⟩:Ao)]:List Ao),53⟩)]) from rfl))<|Ax fun k j=>imp (Cz (show _=some ((Bh Ao.E 300015 (d++([(⟨b,c,a.Cs,IntKind.wrap .i64 (a.To-(1))⟩:Ao)]:List Ao))),(Jf Ao.E 300015 90000 53 d ([(⟨b,c,a.Cs,IntKind.wrap .i64 (a.To-(1))⟩:Ao)]:List Ao))) from (H6 (E:=Ao.E) (l':=d) (xs:=([(⟨b,c,a.Cs,IntKind.wrap .i64 (a.To-(1))⟩:Ao)]:List Ao)) rfl rfl (Ed (E:=Ao.E) (ty:=53) rfl rfl Bv) qB rfl (fun hne=>Eq.trans Bv (C7 hne)) j)))<|nN hN2 rfl (wM [(90000,300015),(0,0)]))<|nN hN1 rfl (wM [(90000,90000),(0,0)])
theorem eZ (n:Nat) (a:List (List Ab)) (c5 b c28 c d e:Int) (f:List Ao) {t:(Int×List Ao)⊕((Int×List Ao)⊕Qy)} (hR:HR2 t (fun r=>Kk Ao.E 53 r.1 [Value.int .i64 r.2]) R) (hN0:pY 74 t (fun y=>W5 (Ar (Cr Ab.E) a) AV.Bg c5 (Bh Ao.E 90000 y.2) c28 y.1 c d [(90000,Cn Ao.E 53 y.2)]) N0) (hN1:K3 74 t (fun y=>T8 (Ar (Cr Ab.E) a) AV.Bg c5 (Bh Ao.E 90000 y.2) b y.1 c28 b c d [(90000,Cn Ao.E 53 y.2)]) N1):Iw n a c5 b c28 c d e f=some t→Ub (Ar (Cr Ab.E) a) AV.Bg c5 (Bh Ao.E 90000 f) b e c28 b c d [(90000,Cn Ao.E 53 f)] R N0 N1:=by
 unfold Iw Ub
 exact iq (Aa (a.length:Int)) rfl<|ei<|cb (Ax fun i k=>iq (AV.Cq [Ar Ab.E i] 0) (Cc (E:=(Cr Ab.E)) rfl k)<|iq (Ar Ab.E i) rfl<|Ax fun j l=>iq (AV.Cq [Ar Ab.E j] 0) (Cc (E:=(Cr Ab.E)) rfl l)<|iq (Ar Ab.E j) rfl<|bS Aih fun h=>iq (Aa (h.length:Int)) rfl<|ei<|fun hg=>Kc hg (fun y _ _ g=>Wc n a c5 b e c28 h (h.length:Int) c d y.1 y.2 (gR2 hR g) (gN1 hN0 g) (gN0 hN1 g)) (wM [(90000,90000),(0,0)]))<|nN hN0 rfl (wM [(90000,90000),(0,0)])
theorem nC (n:Nat) (b:List (List Ab)) (c5 c28 c d e:Int) (a:List Ao) {t:(Int×List Ao)⊕Qy} (hR:O8 t (fun r=>Kk Ao.E 53 r.1 [Value.int .i64 r.2]) R) (hN0:K3 74 t (fun y=>W5 (Ar (Cr Ab.E) b) AV.Bg c5 (Bh Ao.E 90000 y.2) c28 y.1 c d [(90000,Cn Ao.E 53 y.2)]) N0):Qq n b c5 c28 c d e a=some t→mO (Ar (Cr Ab.E) b) AV.Bg c5 (Bh Ao.E 90000 a) c28 e c d [(90000,Cn Ao.E 53 a)] R N0:=by
 unfold Qq mO
 refine cb (fun hg=>Kc hg (fun y _ _ g=>eZ n b c5 e c28 c d y.1 y.2 (gR1 hR g) (gN0 hN0 g)) (wM [(90000,90000),(0,0)]))<|imp (B6 (show _=some ((Aa (a.length:Int)),[]) from Gx))<|ei<|cb (hM hR rfl ⟨_,rfl,C8⟩)<|Ax fun i f=> ?_
 have lh966:=R0 f
 exact imp (Ts (hx:=rfl) (E:=Ao.E) (ty:=53) (l:=a) (cmp:=(fun x y=>Yp n x y)) rfl Ao.ok lM wT lY rfl Bv Uh (fun x y z h=>Aoh h) f)<|imp Sf<|hM hR rfl ⟨_,rfl,Gg (E:=Ao.E) (ty:=53) (l:=i) (by first|rfl|omega|(simp;done)|(simp;omega)) Bv⟩
theorem Abd (n:Nat) (a:List (List Ab)) (b:Db) {t:Qy} (hR:E5 t (fun r=>Kk Ao.E 53 r.1 [Value.int .i64 r.2]) R):g12 n a b=some t→F12 (Ar (Cr Ab.E) a) b.Bf b.A9 R:=by
 unfold g12 F12
 exact bS Acs fun c=>ei<|cb (hM hR rfl ⟨_,rfl,C8⟩)<|iq (Aa (a.length:Int)) rfl<|ei<|cb (hM hR rfl ⟨_,rfl,C8⟩)<|bS Aky fun d=>ei<|cb (hM hR rfl ⟨_,rfl,C8⟩)<|iq (Aa (a.length:Int)) rfl<|ei<|fun hg=>Kc hg (fun y _ _ g=>nC n a (0) (a.length:Int) b.Bf b.A9 y.1 y.2 (Nr hR g)) (wM [(90000,89500),(0,0)])
theorem Aqh {n k:Nat} {look:Nat→Option Be} {args:List AV} {b:List (List Ab)} {a:Db} {t:Qy} (h:g12 n b a=some t) (hs:aV look 6 args [Ar (Cr Ab.E) b,AV.agg [Aa a.Bf,Aa a.A9]]):Dq pg KK.gl look k 12 args (.Bn (Bh Ao.E k t.1::([Value.int .i64 t.2]:List Value).map AV.sc)) [(k,Cn Ao.E 53 t.1)]:=
 Yd (fun _=>rfl) hs (Adw (Ar (Cr Ab.E) b) a.Bf a.A9 _ (Abd n b a Fb h))
theorem Agy (n:Nat) (a:Ao) (b:Int) {t:Aix} (hR:E5 t (fun r=>Dv ((Ai r))) R):g17 n a b=some t→F17 a.A a.B a.Cs a.To (AV.Cq [Aa b] 0) R:=by
 unfold g17 F17
 exact iq (Aa b) rfl<|ei<|cr hR<|iq (Aa b) rfl<|ei<|rt hR
theorem Anw {n:Nat} {a:Ao} {b:Int} {t:Aix} (h:g17 n a b=some t):Ci pg KK.gl 17 [AV.agg [Aa a.A,Aa a.B,Aa a.Cs,Aa a.To],AV.Cq [Aa b] 0] ((Ai t)):=
 sF Tryz.func17 (Agy n a b Fb h)
theorem zD (n:Nat) (b:List Ao) (c d c7 e:Int) {t:(Int)⊕qM} (hR:O8 t (fun r=>Dv ((Aa r))) R) (hN0:K3 19 t (fun y=>Aou (Ar Ao.E b) (AV.fn 17 [AV.Cq [Aa c] 0]) d c7 y []) N0):W7 n b c d c7 e=some t→Af0 (Ar Ao.E b) (AV.fn 17 [AV.Cq [Aa c] 0]) d c7 e [] R N0:=by
 unfold W7 Af0
 exact cb (Ax fun a f=>iq (AV.Cq [Aa a.A,Aa a.B,Aa a.Cs,Aa a.To] 0) (Cc (E:=Ao.E) rfl f)<|iq (AV.agg [Aa a.A,Aa a.B,Aa a.Cs,Aa a.To]) rfl<|e4<|ei<|ei<|ei<|ei<|Ax fun h g=>imp G7<|imp (Je rfl)<|imp (G5 (Anw g))<|eb<|cr hR<|nN hN0 rfl (wM []))<|rt hR
theorem Akz (n:Nat) (a:List Ao) (b:Int) {t:qM} (hR:E5 t (fun r=>Dv ((Aa r))) R):g70 n a b=some t→F70 (Ar Ao.E a) (AV.fn 17 [AV.Cq [Aa b] 0]) R:=by
 unfold g70 F70
 exact iq (Aa (a.length:Int)) rfl<|ei<|fun hg=>Kc hg (fun y _ _ g=>zD n a b (0) (a.length:Int) y (Nr hR g)) (wM [])
theorem As8 {n:Nat} {a:List Ao} {b:Int} {t:qM} (h:g70 n a b=some t):Ci pg KK.gl 70 [Ar Ao.E a,AV.fn 17 [AV.Cq [Aa b] 0]] ((Aa t)):=
 sF Tryz.func70 (Akz n a b Fb h)
theorem nZ (n:Nat) (g d h:Int) (c:List Ao) {t:(Int×Int×List Ao)⊕zX} (hR:O8 t (fun r=>O1 Ao.E 53 r) R) (hN0:K3 42 t (fun y=>Aig (Bh Ao.E 90000 y.2.2) (AV.fn 17 [AV.Cq [Aa g] 0]) AV.Bg y.1 y.2.1 [(90000,Cn Ao.E 53 y.2.2)]) N0):Pn n g d h c=some t→yF (Bh Ao.E 90000 c) (AV.fn 17 [AV.Cq [Aa g] 0]) AV.Bg d h [(90000,Cn Ao.E 53 c)] R N0:=by
 unfold Pn yF
 refine imp (B6 (show _=some ((Aa (c.length:Int)),[]) from Gx))<|ei<|cb (Ax fun a j=>iq (AV.ptr 90000 (((h:Int).toNat)*4+0)) (Gi (E:=Ao.E) rfl j)<|iq (AV.agg [Aa a.A,Aa a.B,Aa a.Cs,Aa a.To]) (lW (E:=Ao.E) (l:=c) (ty:=53) rfl (Ft (ty:=53) Bv (B3 j).2) (B3 j).2 rfl)<|e4<|ei<|ei<|ei<|ei<|Ax fun u p=>imp G7<|imp (Je rfl)<|imp (G5 (Anw p))<|eb<|cb (iq (AV.agg [Aa a.A,Aa a.B,Aa a.Cs,Aa a.To]) (C2 (b:=⟨[Aa a.A,Aa a.B,Aa a.Cs,Aa a.To],53⟩) Bv rfl)<|e4<|ei<|ei<|ei<|ei<|Ax fun v m=>iq (AV.ptr 90000 (((d:Int).toNat)*4+0)) (Gi (E:=Ao.E) rfl m)<|imp (cF (E:=Ao.E) (l:=c) (i:=((d:Int).toNat)) (y:=a) (ty:=53) B7 B7 rfl rfl Bv (B3 m).2 rfl)<|nN hN0 rfl (wM [(90000,90000)]))<|nN hN0 rfl (wM [(90000,90000)]))<|Ax fun f k=>iq (aF Ao.E 90000 c.length (d:Int).toNat f.length) (Ajp (E:=Ao.E) (e:=53) B7 B7 rfl k)<|Ax fun w q=> ?_
 have lh975:(Oz ((⟨0,0,0,0⟩:Ao):Ao) c f ((d:Int).toNat)).length=c.length:=qH k
 exact imp (Cz (show _=some ((AV.Bn []),[(90000,Cn Ao.E 53 (Oz ((⟨0,0,0,0⟩:Ao):Ao) c f ((d:Int).toNat)))]) from (oN (E:=Ao.E) (e:=53) (sz:=4) (z:=((⟨0,0,0,0⟩:Ao):Ao)) B7 B7 rfl B7 k q Bv)))<|imp Sf<|Ax fun s o=>iq (aF Ao.E 90000 (Oz ((⟨0,0,0,0⟩:Ao):Ao) c f ((d:Int).toNat)).length 0 s.length) (Aia (E:=Ao.E) (e:=53) B7 B7 (by first|rfl|omega|(simp;done)|(simp;omega)) o)<|hM hR rfl (aA (E:=Ao.E) (ty:=53) (l:=(Oz ((⟨0,0,0,0⟩:Ao):Ao) c f ((d:Int).toNat))) (lG (by assumption)) o Bv)
theorem Acr (n:Nat) (a:List Ao) (b:Int) {t:zX} (c:a≠[]) (hR:E5 t (fun r=>O1 Ao.E 53 r) R):g15 n a b=some t→Adt (Bh Ao.E 0 a) (AV.fn 17 [AV.Cq [Aa b] 0]) [(0,Cn Ao.E 53 a)] R:=by
 unfold g15 Adt
 exact Ax fun e d=>imp (G8 (E1 (A7 (Lz (E:=Ao.E) (ty:=53) (l':=a) _ Ao.nf rfl Bv) (A7 (dC _ _ (A7 (qS _ _ (by simp [clean,Bk,Bz]) (by simp [norm,He,Hx])) C0)) C0)) (As8 d) rfl))<|ei<|cb (hM hR rfl (Zf (E:=Ao.E) (ty:=53) (l:=a) c rfl Bv))<|fun hg=>Kc hg (fun y _ _ g=>nZ n b y.1 y.2.1 y.2.2 (Nr hR g)) (wM [(90000,0)])
theorem Arp {n k id:Nat} {look:Nat→Option Be} {args:List AV} {l0:List Ao} {a:List Ao} {b:Int} {t:zX} (c:a≠[]) (hl:l0.length=a.length) (hb:look id=Cn Ao.E 53 a) (h:g15 n a b=some t) (ha:aV (less look id) 6 args [AV.fn 17 [AV.Cq [Aa b] 0]]):Dq pg KK.gl look k 15 (Bh Ao.E id l0::args) (Nh Ao.E k t) [(k,some ⟨A0 Ao.E t,53⟩),(id,none)]:=
 kC (fun _=>rfl) hl c hb ha (by
  have:=pO (Bh Ao.E 0 a) (AV.fn 17 [AV.Cq [Aa b] 0]) _ _ (Acr n a b c Fb h)
  rw [Fj c,C7 c] at this
  exact this)
end Go.Proofs.YtkdodbfnocdkdaaGreatDoor
set_option linter.unusedVariables false
set_option linter.unusedSimpArgs false
set_option maxRecDepth 100000
set_option maxHeartbeats 4000000
namespace Go.Proofs.YtkdodbfnocdkdaaGreatDoor
variable {R:AV→Mem→Prop} {N0 N1 N2 N3:St→Prop}
theorem wZ (n:Nat) (c d:List Ao) (e:Bool) (c12 f:Int) {t:(Int)⊕uC} (hR:O8 t (fun r=>Dv ((Ai r))) R) (hN0:K3 26 t (fun y=>Alv (Ar Ao.E c) (Ar Ao.E d) e c12 y []) N0):Tp n c d e c12 f=some t→Afy (Ar Ao.E c) (Ar Ao.E d) e c12 f [] R N0:=by
 unfold Tp Afy
 exact cb (Ax fun a g=>iq (AV.Cq [Aa a.A,Aa a.B,Aa a.Cs,Aa a.To] 0) (Cc (E:=Ao.E) rfl g)<|iq (AV.agg [Aa a.A,Aa a.B,Aa a.Cs,Aa a.To]) rfl<|e4<|ei<|ei<|ei<|ei<|Ax fun b h=>iq (AV.Cq [Aa b.A,Aa b.B,Aa b.Cs,Aa b.To] 0) (Cc (E:=Ao.E) rfl h)<|iq (AV.agg [Aa b.A,Aa b.B,Aa b.Cs,Aa b.To]) rfl<|e4<|ei<|ei<|ei<|ei<|iq (Ai (!(decide (a=b)))) (Ao.Alz (a) (b))<|eb<|cr hR<|nN hN0 rfl (wM []))<|rt hR
theorem Ag8 (n:Nat) (a b:List Ao) {t:uC} (hR:E5 t (fun r=>Dv ((Ai r))) R):g18 n a b=some t→F18 (Ar Ao.E a) (Ar Ao.E b) R:=by
 unfold g18 F18
 exact iq (Aa (a.length:Int)) rfl<|ei<|iq (Aa (b.length:Int)) rfl<|ei<|cr hR<|iq (Aa (a.length:Int)) rfl<|ei<|fun hg=>Kc hg (fun y _ _ g=>wZ n a b false (a.length:Int) y (Nr hR g)) (wM [])
theorem Asp {n:Nat} {a:List Ao} {b:List Ao} {t:uC} (h:g18 n a b=some t):Ci pg KK.gl 18 [Ar Ao.E a,Ar Ao.E b] ((Ai t)):=
 sF Tryz.func18 (Ag8 n a b Fb h)
end Go.Proofs.YtkdodbfnocdkdaaGreatDoor
set_option linter.unusedVariables false
set_option linter.unusedSimpArgs false
namespace Go.Proofs.YtkdodbfnocdkdaaGreatDoor
open Go.RowKit
section
variable {α:Type} {E:En α} {P:Program} {gl:Nat→Option (List AV)}
theorem fQ {c0 c1:Cx}:∀{xs:List AV} {vs:List Value},xs.all K5=true→Bm c0 xs vs→Bm c1 xs vs
 |[],_,_,h=>by cases h;exact .nil
 |x::xs,_,hs,h=>by
  rw [List.all_cons,Bool.and_eq_true] at hs
  cases h with
  |cons h1 h2=>
   refine .cons ?_ (fQ hs.2 h2)
   cases h1<;>first|exact .sc _ (by assumption)|simp [K5] at hs
theorem pI {look:Nat→Option Be} {f:FuncId} {args ar:List AV} {ty:Nat} {l:List α} (hE:ScE E) (ha:aV look 6 args ar) (h:Own P gl f ar (fun u m=>∃k cap ex,u=.sl k 0 E.size l.length cap ex∧Al m k=some ⟨A0 E l,ty⟩)):I5 P gl look f args (Ar E l):=by
 obtain ⟨us,h1,h2⟩:=Ix 6 ha
 refine ⟨h.1,fun B c vals g hgl hl hr=> ?_⟩
 have hBs:=g.hB
 have hst:∀b,c.Bx b→(c.alone c.no).Bx b:=fun b ⟨h1,h2,h3⟩=>⟨h1,Ct,h3⟩
 have hso:∀b,c.own b→(c.alone c.no).Bx b:=by
  rintro b ⟨id,By,h1,h2⟩
  have hlow:=(g.low id By h1).1
  have hlt:=g.lt h1
  refine ⟨by show b<c.w.heap.size;omega,Ct,fun hn=> ?_⟩
  have:b<B:=g.Jg b hn
  omega
 have hrr:Bm (c.alone c.no) us vals:=E4 (fun z _ u y r h=>Lg (c:=c) (c0:=c.alone c.no) g rfl hst hso hl 6 r h) hr h1
 have hrr:Bm (c.alone c.no) ar vals:=by rw [← h2];exact F4 hrr
 refine (h.2 c.w.heap.size (c.alone c.no) vals (Eb fun b hb=>by have:=g.Jg b hb;omega) (Cw.Ca (c:=c) rfl hst hgl) (fun _=>rfl) (fun _ h=>h) hrr).mono ?_
 rintro e w' ⟨u,m,nx,⟨k,cap,ex,rfl,hb⟩,u',c0,rfl,rfl,k1,k2,k3,k4,k5⟩
 refine ⟨u',{c with w:=c0.w},rfl,rfl,?_,G2 g k2,Hv g k2,fun _=>rfl,fun _=>Iff.rfl⟩
 have hM:c0.M k=some ⟨A0 E l,ty⟩:=by rw [k4];exact hb
 obtain ⟨arr,vs,rest,q1,q2,q3⟩:=k3.By k _ hM
 have hlow:=(k3.low k _ hM).1
 cases k1 with
 |sl ha hb' hs hn hc he hm=>
  refine .Ec (c:={c with w:=c0.w}) ⟨E9 q1,?_,?_⟩ (fQ (Hp hE l) q3) (fun j v hj=> ?_) (by omega) (fun h=>by cases h) hm
  ·rintro ⟨id,By,p1,p2⟩
   have p1:c.M id=some By:=p1
   have p2:c.f id=c0.f k:=p2
   have:=g.lt p1
   rw [p2] at this
   omega
  ·intro hno
   have:c0.f k<B:=g.Jg _ hno
   omega
  ·show c0.w.cell? _=_
   unfold World.cell?
   simp only [q1,Option.isSome_none,Bool.false_eq_true,if_false,Nat.zero_add]
   rw [← Array.getElem?_toList,q2,List.getElem?_append_left (List.getElem?_eq_some_iff.1 hj).1]
   exact hj
end
theorem oF (a0 a1:AV) (R:AV→Mem→Prop):W pg KK (Tryz.f14).ntmps 0 ((Tryz.f14.body).getD .skip) ⟨Eu [a0,a1] 0,[],0⟩ (Cm pg Tryz.f14 R)=C1 pg KK.gl [] 2 16 [a0] fun v0 m0=>C1 pg KK.gl m0 67 15 [v0,(AV.fn 17 [a1])] fun v1 m1=>As R m1 [some v1]:=by kernel_rfl
theorem cQ {n nx:Nat} {look:Nat→Option Be} {l y:List Ao} {i:Int} {u1 u2:Unit} (h1:D0 l.length 32=some u1) (h2:neO l=some u2) (h3:g15 n l i=some y) (hb:look 0=some ⟨[Aa i],3⟩):Dq pg KK.gl look nx 14 [Ar Ao.E l,.ptr 0 0] (Ar Ao.E y) []:=
 (pI (ty:=53) (fun _=>rfl) (A7 (Rx _ l false) (A7 (Nw _ hb (A7 (Di _ _) C0)) C0)) (Fe (K:=KK) Re Tryz.func14 (by kernel_rfl) (by kernel_rfl) (by kernel_rfl) (oF _ _ _) (Ea (sR h1) (Ea (Arp (Uz h2) rfl (by first|rfl|(simp (disch:=first|decide|assumption) only [lk])) h3 (A7 (dC _ _ (A7 (qS _ _ rfl rfl) C0)) C0)) ⟨_,_,_,rfl,by first|rfl|(simp (disch:=first|decide|assumption) only [lk])⟩)))).toD
end Go.Proofs.YtkdodbfnocdkdaaGreatDoor
