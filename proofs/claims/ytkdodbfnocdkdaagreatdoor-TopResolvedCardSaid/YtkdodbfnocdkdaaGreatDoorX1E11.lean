/- A part. -/
import Derived.Test.YtkdodbfnocdkdaaGreatDoorX1Eb
import Derived.Test.YtkdodbfnocdkdaaGreatDoorShH
set_option linter.unusedVariables false
set_option linter.unusedSimpArgs false
set_option maxRecDepth 100000
set_option maxHeartbeats 4000000
namespace Go.Proofs.YtkdodbfnocdkdaaGreatDoor
variable {R:AV→Mem→Prop} {N0 N1 N2 N3:St→Prop}
theorem Ao4 (n:Nat) (e:List (List Ab)) (c:Int) (d:Db) (g:Int) (a:Dg) {t:ρ3} (hR:E5 t (fun r=>Dv ((Ai r))) R):g3 n e c d g a=some t→F3 (Ar (Cr Ab.E) e) c d.Bf d.A9 g a.Name a.Fa a.B8 a.C5 a.Cb a.Eg a.Eh R:=by
 unfold g3 F3
 exact bS sg4 fun ai=>eb<|cr hR<|bS sg5 fun aj=>eb<|cr hR<|bS sg6 fun ak=>imp Yv<|e4<|es<|ei<|ei<|es<|ei<|cr hR<|bS sg7 fun al=>et<|es<|ei<|bS sg8 fun am=>imp Yv<|e4<|es<|ei<|ei<|es<|eb<|ei<|Ax fun an m=>imp (Tc (Qn (U3 false) (Qn (Ll _) (Qn (Ll _) zU))) (sg9 m))<|et<|ei<|bS Aq6 fun p=>et<|ei<|Ax fun h q=>iq (AV.Cq [Ar Ab.E h] 0) (Cc (E:=(Cr Ab.E)) rfl q)<|iq (Ar Ab.E h) rfl<|iq (AV.agg [Aa (0),Aa (0)]) rfl<|bS Anf fun j=>et<|ei<|Ax fun s u=>imp (G5 (Ary u))<|et<|ei<|Ax fun ao v=>imp (Ea (show Dq _ _ _ _ _ _ (Bh (Cr Ab.E) 586 e) [(586,Cn (Cr Ab.E) 32 e)] from yG v))<|iq (Aa c) (Cf (b:=⟨[Aa c],3⟩) Bv rfl)<|ei<|Ax fun ap k=>iq (AV.ptr 586 (((c:Int).toNat)*1+0)) (Gi (E:=(Cr Ab.E)) rfl k)<|imp (Jn (E:=(Cr Ab.E)) (l:=e) (i:=((c:Int).toNat)) (o:=0) (y:=j.1) (ty:=32) B7 B7 rfl Bv (B3 k).2 rfl (by decide) rfl)<|iq (AV.agg [Aa d.Bf,Aa d.A9]) (C2 (b:=⟨[Aa d.Bf,Aa d.A9],24⟩) Bv rfl)<|e2<|ei<|ei<|Ax fun f w=>imp (Ea (show Dq _ _ _ _ _ _ (AV.Bn [Bh Ao.E 658 f.1,Aa f.2]) [(658,Cn Ao.E 53 f.1)] from Aqh w (A7 (Lz (E:=(Cr Ab.E)) (ty:=32) (l':=(e.set ((c:Int).toNat) j.1)) _ (Cr.nf Ab.E) (by first|rfl|omega|(simp;done)|(simp;omega)) Bv) (A7 (Zg _ (A7 (Di _ _) (A7 (Di _ _) C0))) C0))))<|et<|ei<|cr hR<|cr hR<|cr hR<|cr hR<|cr hR<|cr hR<|iq (Aa (p.1.length:Int)) rfl<|ei<|cr hR<|cr hR<|cr hR<|cb (cb (Ax fun aq x=>Ax fun ar z=>Ax fun aa ab=>imp (Ea (cQ x z ab Bv))<|iq (Aa (aa.length:Int)) rfl<|ei<|iq (Aa (s.1.length:Int)) rfl<|ei<|cb (Ax fun au ad=>Ax fun av ae=>Ax fun af ag=>imp (Ea (cQ ad ae ag Bv))<|Ax fun aw ah=>imp (G8 (E1 (A7 (Lz (E:=Ao.E) (ty:=53) (l':=f.1) _ Ao.nf rfl Bv) (A7 (Rx _ af false) C0)) (Asp ah) rfl))<|eb<|rt hR)<|rt hR)<|rt hR)<|rt hR
theorem sg3 {n:Nat} {c:List (List Ab)} {d:Int} {b:Db} {e:Int} {a:Dg} {t:ρ3} (h:g3 n c d b e a=some t):Ci pg KK.gl 3 [Ar (Cr Ab.E) c,Aa d,AV.agg [Aa b.Bf,Aa b.A9],Aa e,AV.agg [An a.Name,Aa a.Fa,Aa a.B8,Aa a.C5,Aa a.Cb,Aa a.Eg,Aa a.Eh]] ((Ai t)):=
 sF Tryz.func3 (Ao4 n c d b e a Fb h)
end Go.Proofs.YtkdodbfnocdkdaaGreatDoor
