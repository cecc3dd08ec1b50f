/- Parts X1E2, X1E3, X1E4. -/
import Derived.Test.YtkdodbfnocdkdaaGreatDoorX1E1
set_option linter.unusedVariables false
set_option linter.unusedSimpArgs false
set_option maxRecDepth 100000
set_option maxHeartbeats 4000000
namespace Go.Proofs.YtkdodbfnocdkdaaGreatDoor
variable {R:AV→Mem→Prop} {N0 N1 N2 N3:St→Prop}
theorem Aj7 (n:Nat) (c d:List Ab) (b:Db) {t:Aio} (hR:E5 t (fun r=>Dv ((AV.Bn [Aa r.1,Aa r.2]))) R):w9 n c d b=some t→F28 (Ar Ab.E c) (Ar Ab.E d) b.Bf b.A9 R:=by
 unfold w9 F28
 exact bS Arb fun e=>et<|ei<|cb (r2 hR)<|iq (Aa (e.1.length:Int)) rfl<|ei<|cb (r2 hR)<|Ax fun a f=>iq (AV.Cq [Aa a.Cs,Aa a.To] 0) (Cc (E:=Bq.E) rfl f)<|iq (AV.Cq [Aa a.Cs,Aa a.To] 0) rfl<|iq (Aa a.Cs) rfl<|ei<|r2 hR
theorem Ao2 {n:Nat} {b:List Ab} {c:List Ab} {a:Db} {t:Aio} (h:w9 n b c a=some t):Ci pg KK.gl 28 [Ar Ab.E b,Ar Ab.E c,AV.agg [Aa a.Bf,Aa a.A9]] ((AV.Bn [Aa t.1,Aa t.2])):=
 sF Tryz.func28 (Aj7 n b c a Fb h)
theorem gY (n:Nat) (v a b c d f g h i j k m o p q s u ab w x z aa ad:Int) {t:(Int)⊕((Int)⊕R1)} (hR:HR2 t (fun r=>Dv ((Aa r))) R) (hN0:pY 55 t (fun y=>Afl v a b c d f g h i j k m o p q s u y a b c d f g h i j k m o p q s u []) N0) (hN1:K3 55 t (fun y=>Ac5 v a b c d f g h i j k m o p q s u ab w x z aa y a b c d f g h i j k m o p q s u []) N1):Y7 n v a b c d f g h i j k m o p q s u ab w x z aa ad=some t→jW v a b c d f g h i j k m o p q s u ab w x z aa ad a b c d f g h i j k m o p q s u [] R N0 N1:=by
 unfold Y7 jW
 exact cb (Ax fun ae af=>iq (Aa ae) (Jd (E:=Lc) (l:=([w,x,z,aa]:List Int)) (len:=4) (e:=3) B7 B7 B7 rfl ⟨rfl,rfl⟩ af rfl)<|ei<|cr hR<|cr hR<|nN hN1 rfl (wM [(0,0)]))<|nN hN0 rfl (wM [(0,0)])
theorem Zr (n:Nat) (c2 u z a b c d e f g h i j k m o p q s u32:Int) {t:(Int)⊕((Int)⊕((Int)⊕R1))} (hR:HR3 t (fun r=>Dv ((Aa r))) R) (hN0:HN2 55 t (fun y=>Aa0 c2 y a b c d e f g h i j k m o p q s []) N0) (hN1:pY 55 t (fun y=>mE c2 u u y a b c d e f g h i j k m o p q s []) N1) (hN2:K3 55 t (fun y=>oZ c2 u z u z y a b c d e f g h i j k m o p q s []) N2):R7 n c2 u z a b c d e f g h i j k m o p q s u32=some t→Yi c2 u z u z u32 a b c d e f g h i j k m o p q s [] R N0 N1 N2:=by
 unfold R7 Yi
 exact cb (Ax fun v aa=>iq (AV.ptr 0 (((u:Int).toNat)*4+0)) (Ug (l:=([(⟨a,b,c,d⟩:Hn),(⟨e,f,g,h⟩:Hn),(⟨i,j,k,m⟩:Hn),(⟨o,p,q,s⟩:Hn)]:List Hn)) (len:=4) rfl aa)<|Ax fun ah ab=>iq (AV.ptr 0 _) (Ua (l:=([v.c0,v.c1,v.c2,v.c3]:List Int)) (len:=4) rfl ab)<|iq (Aa ah) (Ys (E:=Hn.E) (E2:=Lc) (l:=([(⟨a,b,c,d⟩:Hn),(⟨e,f,g,h⟩:Hn),(⟨i,j,k,m⟩:Hn),(⟨o,p,q,s⟩:Hn)]:List Hn)) (l2:=([v.c0,v.c1,v.c2,v.c3]:List Int)) (ty:=101) Bv (B3 aa).2 rfl rfl (B3 ab).2 rfl)<|ei<|Ax fun w ad=>iq (AV.ptr 0 (((u:Int).toNat)*4+0)) (Ug (l:=([(⟨a,b,c,d⟩:Hn),(⟨e,f,g,h⟩:Hn),(⟨i,j,k,m⟩:Hn),(⟨o,p,q,s⟩:Hn)]:List Hn)) (len:=4) rfl ad)<|Ax fun ai ae=>iq (AV.ptr 0 _) (Ua (l:=([w.c0,w.c1,w.c2,w.c3]:List Int)) (len:=4) rfl ae)<|iq (Aa ai) (Ys (E:=Hn.E) (E2:=Lc) (l:=([(⟨a,b,c,d⟩:Hn),(⟨e,f,g,h⟩:Hn),(⟨i,j,k,m⟩:Hn),(⟨o,p,q,s⟩:Hn)]:List Hn)) (l2:=([w.c0,w.c1,w.c2,w.c3]:List Int)) (ty:=101) Bv (B3 ad).2 rfl rfl (B3 ae).2 rfl)<|ei<|Ax fun x af=>iq (AV.ptr 0 (((z:Int).toNat)*4+0)) (Ug (l:=([(⟨a,b,c,d⟩:Hn),(⟨e,f,g,h⟩:Hn),(⟨i,j,k,m⟩:Hn),(⟨o,p,q,s⟩:Hn)]:List Hn)) (len:=4) rfl af)<|Ax fun aj ag=>iq (AV.ptr 0 _) (Ua (l:=([x.c0,x.c1,x.c2,x.c3]:List Int)) (len:=4) rfl ag)<|iq (Aa aj) (Ys (E:=Hn.E) (E2:=Lc) (l:=([(⟨a,b,c,d⟩:Hn),(⟨e,f,g,h⟩:Hn),(⟨i,j,k,m⟩:Hn),(⟨o,p,q,s⟩:Hn)]:List Hn)) (l2:=([x.c0,x.c1,x.c2,x.c3]:List Int)) (ty:=101) Bv (B3 af).2 rfl rfl (B3 ag).2 rfl)<|ei<|cr hR<|nN hN2 rfl (wM [(0,0)]))<|nN hN1 rfl (wM [(0,0)])
theorem jA (n:Nat) (b a c d e f h i j k l m o p q s u v w:Int) {t:(Int)⊕((Int)⊕R1)} (hR:HR2 t (fun r=>Dv ((Aa r))) R) (hN0:pY 55 t (fun y=>Aa0 b y c d e f h i j k l m o p q s u v []) N0) (hN1:K3 55 t (fun y=>mE b a a y c d e f h i j k l m o p q s u v []) N1):Z6 n b a c d e f h i j k l m o p q s u v w=some t→kQ b a a w c d e f h i j k l m o p q s u v [] R N0 N1:=by
 unfold Z6 kQ
 exact cb (fun hg=>Kc hg (fun y _ _ g=>Zr n b a w c d e f h i j k l m o p q s u v y (gR2 hR g) (gN1 hN0 g) (gN0 hN1 g)) (wM [(0,0)]))<|nN hN0 rfl (wM [(0,0)])
theorem Aaf (n:Nat) (a b c d e f h i j k l m o p q s u v:Int) {t:(Int)⊕R1} (hR:O8 t (fun r=>Dv ((Aa r))) R) (hN0:K3 55 t (fun y=>Aa0 a y b c d e f h i j k l m o p q s u []) N0):wP n a b c d e f h i j k l m o p q s u v=some t→Agk a v b c d e f h i j k l m o p q s u [] R N0:=by
 unfold wP Agk
 exact cb (fun hg=>Kc hg (fun y _ _ g=>jA n a v b c d e f h i j k l m o p q s u y (gR1 hR g) (gN0 hN0 g)) (wM [(0,0)]))<|rt hR
theorem zH (n:Nat) (x a b c d f h i j k m o p q s u v z:Int) {t:(Int)⊕R1} (hR:O8 t (fun r=>Dv ((Aa r))) R) (hN0:K3 55 t (fun y=>Afl x a b c d f h i j k m o p q s u v y a b c d f h i j k m o p q s u v []) N0):qQ n x a b c d f h i j k m o p q s u v z=some t→Agd x a b c d f h i j k m o p q s u v z a b c d f h i j k m o p q s u v [] R N0:=by
 unfold qQ Agd
 exact cb (Ax fun w aa=>iq (AV.agg [Aa w.c0,Aa w.c1,Aa w.c2,Aa w.c3]) (Wh (E:=Hn.E) (l:=([(⟨a,b,c,d⟩:Hn),(⟨f,h,i,j⟩:Hn),(⟨k,m,o,p⟩:Hn),(⟨q,s,u,v⟩:Hn)]:List Hn)) (len:=4) (e:=99) B7 B7 B7 rfl ⟨rfl,rfl⟩ aa)<|e4<|ei<|ei<|ei<|ei<|fun hg=>Kc hg (fun y _ _ g=>gY n x a b c d f h i j k m o p q s u v z w.c0 w.c1 w.c2 w.c3 y (gR1 hR g) (gN0 hN0 g)) (wM [(0,0)]))<|Qw fun t0 e0=>fun hg=>Kc hg (fun y _ _ g=>Aaf n x a b c d f h i j k m o p q s u v y (Nr (fun r e=>hR r (e0.trans (congrArg Sum.inr e))) g)) (wM [(0,0)])
theorem Aka (n:Nat) (a:Gn) {t:R1} (hR:E5 t (fun r=>Dv ((Aa r))) R):g96 n a=some t→F96 a.w6 a.xW a.rY a.sS a.sM a.rV a.vG a.uV a.tI a.Aaz a.xS a.xK a.qY a.rL a.zJ a.Aa5 R:=by
 unfold g96 F96
 exact fun hg=>Kc hg (fun y _ _ g=>zH n (0) a.w6 a.xW a.rY a.sS a.sM a.rV a.vG a.uV a.tI a.Aaz a.xS a.xK a.qY a.rL a.zJ a.Aa5 y (Nr hR g)) (wM [(0,0)])
theorem Ar5 {n:Nat} {a:Gn} {t:R1} (h:g96 n a=some t):Ci pg KK.gl 96 [AV.agg [Aa a.w6,Aa a.xW,Aa a.rY,Aa a.sS,Aa a.sM,Aa a.rV,Aa a.vG,Aa a.uV,Aa a.tI,Aa a.Aaz,Aa a.xS,Aa a.xK,Aa a.qY,Aa a.rL,Aa a.zJ,Aa a.Aa5]] ((Aa t)):=
 sF Tryz.func96 (Aka n a Fb h)
theorem Abu (n:Nat) (a:Int) {t:tW} (hR:E5 t (fun r=>Dv ((Aa r))) R):O5 n a=some t→Apw a R:=by
 unfold O5 Apw
 exact rt hR
theorem Vz {n:Nat} {a:Int} {t:tW} (h:O5 n a=some t):Ci pg KK.gl 120 [Aa a] ((Aa t)):=
 sF Tryz.func120 (Abu n a Fb h)
theorem Aco (n a:Nat) {t:uG} (hR:E5 t (fun r=>Dv ((Ai r))) R):Wp n a=some t→Ao0 a R:=by
 unfold Wp Ao0
 exact Aif<|rt hR
theorem tX {n:Nat} {a:Nat} {t:uG} (h:Wp n a=some t):Ci pg KK.gl 327 [Ck a] ((Ai t)):=
 sF Tryz.func327 (Aco n a Fb h)
theorem Abq (n a:Nat) {t:xH} (hR:E5 t (fun r=>Dv ((Ck r))) R):nM n a=some t→Ap0 a R:=by
 unfold nM Ap0
 exact imp (Fc (Ns _))<|eu<|iq (AV.sc (.int .u64 (Ho .u64 (a:Int) (9223372036854775808)))) (M4 _ _)<|eu<|imp (Fc (Gk _))<|ef<|rt hR
theorem Ams {n:Nat} {a:Nat} {t:xH} (h:nM n a=some t):Ci pg KK.gl 349 [Ck a] ((Ck t)):=
 sF Tryz.func349 (Abq n a Fb h)
theorem Abj (n a:Nat) (b:Int) {t:xJ} (hR:E5 t (fun r=>Dv ((Ai r))) R):Si n a b=some t→Al1 a b R:=by
 unfold Si Al1
 exact cb (bS Ams fun c=>ef<|Ui<|rt hR)<|cb (Hg<|Ui<|rt hR)<|Ui<|rt hR
theorem Xf {n:Nat} {a:Nat} {b:Int} {t:xJ} (h:Si n a b=some t):Ci pg KK.gl 328 [Ck a,Aa b] ((Ai t)):=
 sF Tryz.func328 (Abj n a b Fb h)
theorem Aba (n:Nat) {t:tQ} (hR:E5 t (fun r=>Dv ((Ck r))) R):pN n=some t→Alo R:=by
 unfold pN Alo
 exact imp (Fc (Gk _))<|ef<|rt hR
theorem vH {n:Nat} {t:tQ} (h:pN n=some t):Ci pg KK.gl 330 [] ((Ck t)):=
 sF Tryz.func330 (Aba n Fb h)
end Go.Proofs.YtkdodbfnocdkdaaGreatDoor
set_option linter.unusedVariables false
set_option linter.unusedSimpArgs false
set_option maxRecDepth 100000
set_option maxHeartbeats 4000000
namespace Go.Proofs.YtkdodbfnocdkdaaGreatDoor
variable {R:AV→Mem→Prop} {N0 N1 N2 N3:St→Prop}
theorem gC {ρ:Type} {t:ρ} {z n:Nat} {k:Nat→Option ρ} {K:Nat→Prop} (h:∀r,k r=some t→K r):Xz z k=some t→S3 z n K:=by
 unfold Xz S3
 exact Co fun _=>Hf fun _=>Co fun _=>Mc 13666448263388469915 rfl rfl<|Co fun _=>Mc 4477121864728985349 rfl rfl<|D9 fun _=>Co fun _=>Mc 13732177093698800582 rfl rfl<|D9 fun _=>Co fun _=>Mc 4537941361668146421 rfl rfl<|D9 fun _=>Co fun _=>Mc 13787419979223748497 rfl rfl<|D9 fun _=>Co fun _=>Mc 4586165620538955083 rfl rfl<|D9 fun _=>Co fun _=>D9 fun v=>h v
theorem psE {ρ:Type} {t:ρ} {y z n:Nat} {k:Nat→Option ρ} {K:Nat→Prop} (h:∀r,k r=some t→K r):pZ y z k=some t→lN y z n K:=by
 unfold pZ lN
 exact Co fun _=>Mc 4460209587652500685 rfl rfl<|Co fun _=>Mc 13716528389658582877 rfl rfl<|D9 fun _=>Co fun _=>Mc 4523617212962785441 rfl rfl<|D9 fun _=>Co fun _=>Mc 13774824197404483331 rfl rfl<|D9 fun _=>Co fun _=>Mc 4575957461383575504 rfl rfl<|D9 fun _=>Co fun _=>Mc 13818544856648471880 rfl rfl<|D9 fun _=>Co fun _=>D9 fun v=>h v
theorem Abw (n c:Nat) {t:xM} (hR:E5 t (fun r=>Dv ((Ck r))) R):mP n c=some t→Aml c R:=by
 unfold mP Aml
 exact aP<|cr hR<|bS tX fun f=>eb<|cr hR<|bS Xf fun g=>eb<|cb (bS vH fun i=>ef<|rt hR)<|uY<|cb (Hg<|gU<|cb (fun h=>by cases h)<|Co fun j=>Ax fun a d=>iq (AV.sc (.int .u64 a)) (Qu B7 B7 d)<|eu<|iq (Ck (Kp a)) (Ma B7 B7)<|ef<|iq (AV.sc (.int .u64 (E6 .u64 a (1)))) (H5 _ _)<|eu<|cb (D9 fun k=>iq (AV.sc (.int .u64 (E6 .u64 (IntKind.wrap .u64 (a+(1))) (7)))) (H5 _ _)<|eu<|Co fun l=>Hf fun m=>Co fun o=>Hf fun p=>Co fun q=>Hf fun s=>cb (Co fun u=>cb (gC fun v=>rt hR)<|cb (gC fun w=>rt hR)<|psE fun x=>rt hR)<|Co fun y=>cb (gC fun z=>Hg<|rt hR)<|cb (gC fun aa=>Hg<|rt hR)<|psE fun ab=>Hg<|rt hR)<|iq (AV.sc (.int .u64 (E6 .u64 a (7)))) (H5 _ _)<|eu<|Co fun ad=>Hf fun ae=>Co fun af=>Hf fun ag=>Co fun ah=>Hf fun ai=>cb (Co fun aj=>cb (gC fun ak=>rt hR)<|cb (gC fun al=>rt hR)<|psE fun am=>rt hR)<|Co fun an=>cb (gC fun ao=>Hg<|rt hR)<|cb (gC fun ap=>Hg<|rt hR)<|psE fun aq=>Hg<|rt hR)<|gU<|cb (fun h=>by cases h)<|Co fun ar=>Ax fun b e=>iq (AV.sc (.int .u64 b)) (Qu B7 B7 e)<|eu<|iq (Ck (Kp b)) (Ma B7 B7)<|ef<|iq (AV.sc (.int .u64 (E6 .u64 b (1)))) (H5 _ _)<|eu<|cb (D9 fun au=>iq (AV.sc (.int .u64 (E6 .u64 (IntKind.wrap .u64 (b+(1))) (7)))) (H5 _ _)<|eu<|Co fun av=>Hf fun aw=>Co fun ax=>Hf fun ay=>Co fun az=>Hf fun ba=>cb (Co fun bb=>cb (gC fun bc=>Hg<|rt hR)<|cb (gC fun bd=>Hg<|rt hR)<|psE fun be=>Hg<|rt hR)<|Co fun bf=>cb (gC fun bg=>rt hR)<|cb (gC fun bh=>rt hR)<|psE fun bi=>rt hR)<|iq (AV.sc (.int .u64 (E6 .u64 b (7)))) (H5 _ _)<|eu<|Co fun bj=>Hf fun bk=>Co fun bl=>Hf fun bm=>Co fun bn=>Hf fun bo=>cb (Co fun bp=>cb (gC fun bq=>Hg<|rt hR)<|cb (gC fun br=>Hg<|rt hR)<|psE fun bs=>Hg<|rt hR)<|Co fun bt=>cb (gC fun bu=>rt hR)<|cb (gC fun bv=>rt hR)<|psE fun bw=>rt hR
theorem Anx {n:Nat} {a:Nat} {t:xM} (h:mP n a=some t):Ci pg KK.gl 346 [Ck a] ((Ck t)):=
 sF Tryz.func346 (Abw n a Fb h)
end Go.Proofs.YtkdodbfnocdkdaaGreatDoor
set_option linter.unusedVariables false
set_option linter.unusedSimpArgs false
set_option maxRecDepth 100000
set_option maxHeartbeats 4000000
namespace Go.Proofs.YtkdodbfnocdkdaaGreatDoor
variable {R:AV→Mem→Prop} {N0 N1 N2 N3:St→Prop}
theorem Ad0 (n a:Nat) {t:xN} (hR:E5 t (fun r=>Dv ((Ck r))) R):qX n a=some t→Amh a R:=by
 unfold qX Amh
 exact bS Anx fun b=>ef<|rt hR
theorem An4 {n:Nat} {a:Nat} {t:xN} (h:qX n a=some t):Ci pg KK.gl 316 [Ck a] ((Ck t)):=
 sF Tryz.func316 (Ad0 n a Fb h)
theorem Ac1 (n a:Nat) {t:yC} (hR:E5 t (fun r=>Dv ((Ck r))) R):pC n a=some t→Aoy a R:=by
 unfold pC Aoy
 exact imp (Fc (Ns _))<|eu<|Ax fun b e=>iq (AV.sc (.int .u64 b)) (Z0 e)<|eu<|iq (AV.sc (.int .u64 (E6 .u64 b (2047)))) (H5 _ _)<|eu<|cb (iq (AV.sc (.int .u64 (E6 .u64 (a:Int) (9223372036854775808)))) (H5 _ _)<|eu<|cb (iq (AV.sc (.int .u64 (bOr .u64 (E6 .u64 (a:Int) (9223372036854775808)) (4607182418800017408)))) (mL _ _)<|eu<|imp (Fc (Gk _))<|ef<|rt hR)<|imp (Fc (Gk _))<|ef<|rt hR)<|cb (Ax fun c f=>iq (AV.sc (.int .u64 c)) (Z0 f)<|eu<|Ax fun d g=>iq (AV.sc (.int .u64 d)) (Z0 g)<|eu<|iq (AV.sc (.int .u64 (Ho .u64 (IntKind.wrap .u64 ((a:Int)+c)) d))) (M4 _ _)<|eu<|imp (Fc (Gk _))<|ef<|rt hR)<|imp (Fc (Gk _))<|ef<|rt hR
theorem Al0 {n:Nat} {a:Nat} {t:yC} (h:pC n a=some t):Ci pg KK.gl 315 [Ck a] ((Ck t)):=
 sF Tryz.func315 (Ac1 n a Fb h)
theorem Aey (n:Nat) (a:Int) {t:zB} (hR:E5 t (fun r=>Dv ((Aa r))) R):bM n a=some t→An0 a R:=by
 unfold bM An0
 exact bS Vz fun b=>ei<|iq (Ck (Kp b)) (Ma B7 B7)<|ef<|Co fun e=>P2 fun f=>bS An4 fun g=>ef<|Co fun h=>bS Al0 fun i=>ef<|Ax fun c d=>iq (Aa c) (Qu B7 B7 d)<|ei<|rt hR
theorem xF {n:Nat} {a:Int} {t:zB} (h:bM n a=some t):Ci pg KK.gl 261 [Aa a] ((Aa t)):=
 sF Tryz.func261 (Aey n a Fb h)
theorem Aes (n:Nat) (a:Int) {t:qJ} (hR:E5 t (fun r=>Dv ((Aa r))) R):bO n a=some t→Alf a R:=by
 unfold bO Alf
 exact bS Vz fun b=>ei<|bS xF fun c=>ei<|rt hR
theorem Af5 {n:Nat} {a:Int} {t:qJ} (h:bO n a=some t):Ci pg KK.gl 262 [Aa a] ((Aa t)):=
 sF Tryz.func262 (Aes n a Fb h)
theorem Abs (n a:Nat) {t:yS} (hR:E5 t (fun r=>Dv ((Ai r))) R):sT n a=some t→Anl a R:=by
 unfold sT Anl
 exact imp (Fc (Ns _))<|eu<|iq (Aa (IntKind.wrap .i64 (a:Int))) B7<|ei<|rt hR
theorem Amf {n:Nat} {a:Nat} {t:yS} (h:sT n a=some t):Ci pg KK.gl 331 [Ck a] ((Ai t)):=
 sF Tryz.func331 (Abs n a Fb h)
theorem Aer (n a b:Nat) {t:zN} (hR:E5 t (fun r=>Dv ((Ck r))) R):P8 n a b=some t→Apd a b R:=by
 unfold P8 Apd
 exact imp (Fc (Ns _))<|eu<|iq (AV.sc (.int .u64 (Ho .u64 (a:Int) (9223372036854775808)))) (M4 _ _)<|eu<|imp (Fc (Ns _))<|eu<|iq (AV.sc (.int .u64 (E6 .u64 (b:Int) (9223372036854775808)))) (H5 _ _)<|eu<|iq (AV.sc (.int .u64 (bOr .u64 (Ho .u64 (a:Int) (9223372036854775808)) (E6 .u64 (b:Int) (9223372036854775808))))) (mL _ _)<|eu<|imp (Fc (Gk _))<|ef<|rt hR
theorem Q5 {n:Nat} {a:Nat} {b:Nat} {t:zN} (h:P8 n a b=some t):Ci pg KK.gl 332 [Ck a,Ck b] ((Ck t)):=
 sF Tryz.func332 (Aer n a b Fb h)
theorem Ab2 (n a:Nat) {t:vC} (hR:E5 t (fun r=>Dv ((Ck r))) R):eI n a=some t→Al2 a R:=by
 unfold eI Al2
 exact Co fun b=>Co fun c=>D9 fun d=>Co fun e=>D9 fun f=>Co fun g=>D9 fun h=>Co fun i=>D9 fun j=>Co fun k=>D9 fun l=>Co fun m=>D9 fun o=>Co fun p=>D9 fun q=>Co fun s=>D9 fun u=>Co fun v=>D9 fun w=>P2 fun x=>Co fun y=>D9 fun z=>rt hR
theorem zT {n:Nat} {a:Nat} {t:vC} (h:eI n a=some t):Ci pg KK.gl 362 [Ck a] ((Ck t)):=
 sF Tryz.func362 (Ab2 n a Fb h)
theorem Adx (n a:Nat) {t:tK} (hR:E5 t (fun r=>Dv ((Ck r))) R):jO n a=some t→Ana a R:=by
 unfold jO Ana
 exact yZ<|cb (bS zT fun b=>ef<|rt hR)<|Ui<|cb (P2 fun c=>bS zT fun d=>ef<|Hf fun e=>D9 fun f=>rt hR)<|Hf fun g=>D9 fun h=>P2 fun i=>bS zT fun j=>ef<|D9 fun k=>D9 fun l=>rt hR
theorem Agt {n:Nat} {a:Nat} {t:tK} (h:jO n a=some t):Ci pg KK.gl 358 [Ck a] ((Ck t)):=
 sF Tryz.func358 (Adx n a Fb h)
theorem Ac0 (n a:Nat) {t:xV} (hR:E5 t (fun r=>Dv ((Ck r))) R):Aax n a=some t→Ama a R:=by
 unfold Aax Ama
 exact aP<|cr hR<|Ui<|cb (bS Agt fun b=>ef<|rt hR)<|Hg<|bS Agt fun c=>ef<|Hg<|rt hR
theorem Aox {n:Nat} {a:Nat} {t:xV} (h:Aax n a=some t):Ci pg KK.gl 352 [Ck a] ((Ck t)):=
 sF Tryz.func352 (Ac0 n a Fb h)
theorem Aca (n a:Nat) {t:rK} (hR:E5 t (fun r=>Dv ((Ck r))) R):nT n a=some t→Ao5 a R:=by
 unfold nT Ao5
 exact bS Aox fun b=>ef<|rt hR
theorem Ani {n:Nat} {a:Nat} {t:rK} (h:nT n a=some t):Ci pg KK.gl 333 [Ck a] ((Ck t)):=
 sF Tryz.func333 (Aca n a Fb h)
theorem Adh (n a b:Nat) {t:Aar} (hR:E5 t (fun r=>Dv ((Ck r))) R):zC n a b=some t→Alj a b R:=by
 unfold zC Alj
 exact bS tX fun c=>eb<|cb (bS vH fun d=>ef<|rt hR)<|bS tX fun e=>eb<|cb (bS vH fun f=>ef<|rt hR)<|aP<|cb (gU<|cb (bS Amf fun g=>eb<|cb (bS Q5 fun h=>ef<|rt hR)<|bS Q5 fun i=>ef<|rt hR)<|bS Q5 fun j=>ef<|rt hR)<|aP<|cb (bS Q5 fun k=>ef<|rt hR)<|bS Xf fun l=>eb<|cb (bS Xf fun m=>eb<|cb (bS Xf fun o=>eb<|cb (bS Q5 fun p=>ef<|rt hR)<|bS Q5 fun q=>ef<|rt hR)<|bS Xf fun s=>eb<|cb (bS Q5 fun u=>ef<|rt hR)<|bS Q5 fun v=>ef<|rt hR)<|bS Xf fun w=>eb<|cb (bS Q5 fun x=>ef<|rt hR)<|P2 fun y=>bS Ani fun z=>ef<|uY<|cb (yZ<|cb (D9 fun aa=>rt hR)<|Hf fun ab=>rt hR)<|rt hR
theorem An1 {n:Nat} {a:Nat} {b:Nat} {t:Aar} (h:zC n a b=some t):Ci pg KK.gl 300 [Ck a,Ck b] ((Ck t)):=
 sF Tryz.func300 (Adh n a b Fb h)
theorem Acw (n a b:Nat) {t:zQ} (hR:E5 t (fun r=>Dv ((Ck r))) R):eM n a b=some t→An2 a b R:=by
 unfold eM An2
 exact bS An1 fun c=>ef<|rt hR
theorem Afz {n:Nat} {a:Nat} {b:Nat} {t:zQ} (h:eM n a b=some t):Ci pg KK.gl 243 [Ck a,Ck b] ((Ck t)):=
 sF Tryz.func243 (Acw n a b Fb h)
theorem Abb (n a:Nat) {t:rX} (hR:E5 t (fun r=>Dv ((Ck r))) R):jQ n a=some t→Aop a R:=by
 unfold jQ Aop
 exact Ax fun c b=>imp (Fc (pF b))<|ef<|rt hR
theorem Afx {n:Nat} {a:Nat} {t:rX} (h:jQ n a=some t):Ci pg KK.gl 242 [Ck a] ((Ck t)):=
 sF Tryz.func242 (Abb n a Fb h)
theorem Ab9 (n:Nat) (c:Int) {t:vF} (hR:E5 t (fun r=>Dv ((AV.agg (TP.E.enc r)))) R):Sk n c=some t→Aqb c R:=by
 unfold Sk Aqb
 exact bS xF fun a=>ei<|bS Af5 fun b=>ei<|iq (AV.agg [Aa a,Aa b]) rfl<|imp (Ba (sz:=2) B7 B7 rfl rfl (cs:=[Aa (0),Aa (0)]) (cs':=[Aa a,Aa b]) (ty:=46) Bv rfl rfl)<|fun hg=>Zd (hR _ (Option.some.inj hg).symm) (El (E:=TP.E) _ (⟨a,b⟩:TP))
theorem lE {n:Nat} {a:Int} {t:vF} (h:Sk n a=some t):Ci pg KK.gl 244 [Aa a] ((AV.agg (TP.E.enc t))):=
 sF Tryz.func244 (Ab9 n a Fb h)
theorem Ae8 (n:Nat) (a b:TP) {t:zS} (hR:E5 t (fun r=>Dv ((Aa r))) R):Tx n a b=some t→Aon a.X a.Y b.X b.Y R:=by
 unfold Tx Aon
 exact rt hR
theorem l6 {n:Nat} {a:TP} {b:TP} {t:zS} (h:Tx n a b=some t):Ci pg KK.gl 245 [AV.agg [Aa a.X,Aa a.Y],AV.agg [Aa b.X,Aa b.Y]] ((Aa t)):=
 sF Tryz.func245 (Ae8 n a b Fb h)
theorem Wu (n:Nat) (a b c d e:Int) {t:(Int)⊕bD} (hR:O8 t (fun r=>Dv ((AV.Bn [Aa r.1,Aa r.2]))) R) (hN0:K3 103 t (fun y=>Ajf a a b y c d []) N0):M6 n a b c d e=some t→wV a a b e c d [] R N0:=by
 unfold M6 wV
 exact cb (bS Vz fun f=>ei<|cb (bS Vz fun g=>ei<|bS lE fun h=>e2<|ei<|ei<|bS lE fun i=>e2<|ei<|ei<|bS l6 fun j=>ei<|bS l6 fun k=>ei<|cb (cb (cb (cb (r2 hR)<|bS Vz fun l=>ei<|r2 hR)<|nN hN0 rfl (wM [(0,0)]))<|nN hN0 rfl (wM [(0,0)]))<|nN hN0 rfl (wM [(0,0)]))<|bS lE fun m=>e2<|ei<|ei<|bS lE fun o=>e2<|ei<|ei<|bS l6 fun p=>ei<|bS l6 fun q=>ei<|cb (cb (cb (cb (r2 hR)<|bS Vz fun s=>ei<|r2 hR)<|nN hN0 rfl (wM [(0,0)]))<|nN hN0 rfl (wM [(0,0)]))<|nN hN0 rfl (wM [(0,0)]))<|r2 hR
theorem Ad8 (n:Nat) (a:TP) {t:bD} (hR:E5 t (fun r=>Dv ((AV.Bn [Aa r.1,Aa r.2]))) R):nP n a=some t→Aok a.X a.Y R:=by
 unfold nP Aok
 exact cb (r2 hR)<|cb (r2 hR)<|cb (r2 hR)<|cb (r2 hR)<|cb (cb (r2 hR)<|iq (Ck (Kp a.X)) (Ma B7 B7)<|ef<|iq (Ck (Kp a.Y)) (Ma B7 B7)<|ef<|bS Afz fun f=>ef<|Co fun h=>P2 fun i=>bS Afx fun j=>ef<|Ax fun b d=>iq (Aa b) (Qu B7 B7 d)<|ei<|fun hg=>Kc hg (fun y _ _ g=>Wu n (0) b a.X a.Y y (Nr hR g)) (wM [(0,0)]))<|iq (Ck (Kp a.X)) (Ma B7 B7)<|ef<|iq (Ck (Kp a.Y)) (Ma B7 B7)<|ef<|bS Afz fun k=>ef<|Co fun l=>P2 fun m=>bS Afx fun o=>ef<|Ax fun c e=>iq (Aa c) (Qu B7 B7 e)<|ei<|fun hg=>Kc hg (fun y _ _ g=>Wu n (0) c a.X a.Y y (Nr hR g)) (wM [(0,0)])
theorem Ap2 {n:Nat} {a:TP} {t:bD} (h:nP n a=some t):Ci pg KK.gl 177 [AV.agg [Aa a.X,Aa a.Y]] ((AV.Bn [Aa t.1,Aa t.2])):=
 sF Tryz.func177 (Ad8 n a Fb h)
end Go.Proofs.YtkdodbfnocdkdaaGreatDoor
