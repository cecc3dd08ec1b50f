/- Plain functional programs out of the program's functions, with proofs that the functions compute them; printed by wip/Ext.lean.txt. -/
import Derived.Test.YtlenkbgeomojnaaGreatDoorX1E2
set_option linter.unusedVariables false
set_option linter.unusedSimpArgs false
set_option maxRecDepth 100000
set_option maxHeartbeats 4000000
namespace Go.Proofs.YtlenkbgeomojnaaGreatDoor
/- skyway/polygon.doubled -/
theorem B304_0_ok (n:Nat) (c:List TP) (c7 d:Int) (b:List TP) {t:(Int×List TP)⊕ρ304} (R:AV→Mem→Prop) (N0:St→Prop) (hR:∀r:ρ304,t=(.inr r)→∀u m,Ans ((lstA TP.E r)) u m→R u m) (hN0:∀y:Int×List TP,t=(.inl y)→∀s':St,Weak KK 24 0 s' (h304_0 AV.nils (ownV TP.E 90000 y.2) (lstA TP.E c) c7 y.1 [(90000,ownB TP.E 38 y.2)])→N0 s'):S304_0 n c c7 d b=some t→B304_0 AV.nils (ownV TP.E 90000 b) (lstA TP.E c) c7 d [(90000,ownB TP.E 38 b)] R N0:=by
 unfold S304_0 B304_0
 refine cond_b (fun _=> ?_) (fun _=> ?_)
 ·refine bind_b fun a e=> ?_
  refine iq (AV.ept [intA a.X,intA a.Y] 0) (idx_lst (E:=TP.E) rfl e) ?_
  refine iq (AV.agg [intA a.X,intA a.Y]) rfl ?_
  refine imp exA2_b ?_
  iterate 2 refine imp ex_i64_b ?_
  refine iq (AV.agg [intA (IntKind.wrap .i64 ((2)*a.X)),intA (IntKind.wrap .i64 ((2)*a.Y))]) rfl ?_
  refine imp (opN_of (show _=some ((blkV TP.E 100013 ([(⟨IntKind.wrap .i64 ((2)*a.X),IntKind.wrap .i64 ((2)*a.Y)⟩:TP)]:List TP)),[(100013,some ⟨encs TP.E ([(⟨IntKind.wrap .i64 ((2)*a.X),IntKind.wrap .i64 ((2)*a.Y)⟩:TP)]:List TP),38⟩)]) from rfl)) ?_
  refine bind_b fun g f=> ?_
  refine imp (opN_of (show _=some ((ownV TP.E 100014 (b++([(⟨IntKind.wrap .i64 ((2)*a.X),IntKind.wrap .i64 ((2)*a.Y)⟩:TP)]:List TP))),(appW TP.E 100014 90000 38 b ([(⟨IntKind.wrap .i64 ((2)*a.X),IntKind.wrap .i64 ((2)*a.Y)⟩:TP)]:List TP))) from (app_own (E:=TP.E) (l':=b) (xs:=([(⟨IntKind.wrap .i64 ((2)*a.X),IntKind.wrap .i64 ((2)*a.Y)⟩:TP)]:List TP)) rfl rfl (cellsOf_blk (E:=TP.E) (ty:=38) rfl rfl (by first|rfl|(simp (disch:=first|decide|assumption) only [lk]))) asE rfl (fun hne=>Eq.trans (by first|rfl|(simp (disch:=first|decide|assumption) only [lk])) (ownB_ne hne)) f))) ?_
  exact fun hg=>hN0 _ (Option.some.inj hg).symm _ (weak_mem [(90000,100014)] rfl rfl rfl (oR (okW_cons (ent_own (E:=TP.E) (id:=100014) (l':=(b++([(⟨IntKind.wrap .i64 ((2)*a.X),IntKind.wrap .i64 ((2)*a.Y)⟩:TP)]:List TP))) rfl rfl) (okW_cons (ent_lst (E:=TP.E) _ false) (oR (oR okW_nil))))) (okB_cons (okB_own (E:=TP.E) (ty:=38) (l':=(b++([(⟨IntKind.wrap .i64 ((2)*a.X),IntKind.wrap .i64 ((2)*a.Y)⟩:TP)]:List TP))) rfl (show mget _ 100014=_ from (by first|rfl|(simp (disch:=first|decide|assumption) only [lk])))) okB_nil'))
 ·exact fun hg=>ret1 (hR _ (Option.some.inj hg).symm) (fz_own (E:=TP.E) (ty:=38) (l':=b) _ rfl (by first|rfl|(simp (disch:=first|decide|assumption) only [lk])))
theorem L304_0_ok (n:Nat) (a:List TP) (c7:Int) {t:ρ304} (R:AV→Mem→Prop) (hR:∀r:ρ304,t=r→∀u m,Ans ((lstA TP.E r)) u m→R u m) (k:Nat) (x:Int×List TP) (hx:iterO (fun y:Int×List TP=>S304_0 n a c7 y.1 y.2) k x=some t) {s:St} (hw:Weak KK 24 0 s (h304_0 AV.nils (ownV TP.E 90000 x.2) (lstA TP.E a) c7 x.1 [(90000,ownB TP.E 38 x.2)])):Tri pg KK 24 0 (.loop c304_0) s (q304_0 R):=
 L304_0 R (σ:=Nat×(Int×List TP)) (fun z=>iterO (fun y:Int×List TP=>S304_0 n a c7 y.1 y.2) z.1 z.2=some t) (fun z=>AV.nils) (fun z=>(ownV TP.E 90000 z.2.2)) (fun z=>(lstA TP.E a)) (fun z=>c7) (fun z=>z.2.1) (fun z=>[(90000,ownB TP.E 38 z.2.2)]) (fun z=>z.1) (by
  rintro ⟨k,y⟩ h
  cases k with
  |zero=>exact (iterO_zero h).elim
  |succ k=>
   obtain ⟨u,b,c,d⟩:=iterO_elim h
   exact B304_0_ok n a c7 y.1 y.2 R _ (fun r e=>hR r (d _ e).symm) (fun y' e s' hw=>⟨(k,y'),c _ e,Nat.lt_succ_self k,hw⟩) b) (k,x) hx hw
theorem g304_ok (n:Nat) (a:List TP) {t:ρ304} (R:AV→Mem→Prop) (hR:∀r:ρ304,t=r→∀u m,Ans ((lstA TP.E r)) u m→R u m):g304 n a=some t→F304 (lstA TP.E a) R:=by
 unfold g304 F304
 refine iq (intA (a.length:Int)) rfl ?_
 refine imp ex_i64_b ?_
 exact fun hg=>L304_0_ok n a (a.length:Int) R hR n _ hg (weak_mem [(90000,89500)] rfl rfl rfl (oR (okW_cons ent_nils_own (okW_cons (ent_lst (E:=TP.E) _ false) (oR (oR okW_nil))))) (okB_cons okB_nil okB_nil'))
theorem sg304 {n:Nat} {a:List TP} {t:ρ304} (h:g304 n a=some t):Says pg KK.gl 304 [lstA TP.E a] ((lstA TP.E t)):=
 says_of_own (by first|rfl|simp [cleans,clean,encs_clean,En.cln]) (by first|rfl|simp [cleans,clean,encs_clean,En.cln]) (F304_own (lstA TP.E a) _ (g304_ok n a (Ans ((lstA TP.E t))) (fun r e u m h=>by rw [e];exact h) h))
/- skyway/polygon.enters$1 -/
theorem g338_ok (n:Nat) (c d:TP) (a b:Int) {t:ρ338} (R:AV→Mem→Prop) (hR:∀r:ρ338,t=r→∀u m,Ans ((intA r)) u m→R u m):g338 n c d a b=some t→F338 c.X c.Y d.X d.Y (AV.ept [intA a,intA b] 0) R:=by
 unfold g338 F338
 refine iq (AV.agg [intA a,intA b]) rfl ?_
 refine imp exA2_b ?_
 iterate 2 refine imp ex_i64_b ?_
 refine bind_b fun g e=> ?_
 refine imp (callQ_says (sg277 e)) ?_
 refine imp ex_i64_b ?_
 refine iq (AV.agg [intA a,intA b]) rfl ?_
 refine imp exA2_b ?_
 iterate 2 refine imp ex_i64_b ?_
 refine bind_b fun h f=> ?_
 refine imp (callQ_says (sg277 f)) ?_
 refine imp ex_i64_b ?_
 exact rt1 hR rfl rfl
theorem sg338 {n:Nat} {a:TP} {b:TP} {c:Int} {d:Int} {t:ρ338} (h:g338 n a b c d=some t):Says pg KK.gl 338 [AV.agg [intA a.X,intA a.Y],AV.agg [intA b.X,intA b.Y],AV.ept [intA c,intA d] 0] ((intA t)):=
 says_of_own (by first|rfl|simp [cleans,clean,encs_clean,En.cln]) (by first|rfl|simp [cleans,clean,encs_clean,En.cln]) (F338_own a.X a.Y b.X b.Y (AV.ept [intA c,intA d] 0) _ (g338_ok n a b c d (Ans ((intA t))) (fun r e u m h=>by rw [e];exact h) h))
/- skyway/polygon.enters -/
theorem B305_0_1_0_ok (n:Nat) (k l:List TP) (o:Bool) (s p q v d e f g i j u101:Int) (h:List TP) {t:(Int×List TP)⊕((Int×List TP)⊕((Int)⊕ρ305))} (R:AV→Mem→Prop) (N0 N1 N2:St→Prop) (hR:∀r:ρ305,t=(.inr (.inr (.inr r)))→∀u m,Ans ((boolA r)) u m→R u m) (hN0:∀y:Int,t=(.inr (.inr (.inl y)))→∀s':St,Weak KK 127 0 s' (h305_0 (lstA TP.E k) (lstA TP.E l) o p y [])→N0 s') (hN1:∀y:Int×List TP,t=(.inr (.inl y))→∀s':St,Weak KK 127 0 s' (h305_0_1 (lstA TP.E k) (lstA TP.E l) o (ownV TP.E 90000 y.2) y.1 p q [(90000,ownB TP.E 38 y.2),(100010,some ⟨[intA d,intA e],38⟩),(100011,some ⟨[intA f,intA g],38⟩)])→N1 s') (hN2:∀y:Int×List TP,t=(.inl y)→∀s':St,Weak KK 127 0 s' (h305_0_1_0 (lstA TP.E k) (lstA TP.E l) o (ownV TP.E 90000 y.2) s p q v y.1 [(90000,ownB TP.E 38 y.2),(100010,some ⟨[intA d,intA e],38⟩),(100011,some ⟨[intA f,intA g],38⟩),(300041,some ⟨[intA i,intA j],38⟩)])→N2 s'):S305_0_1_0 n k l o s p q v d e f g i j u101 h=some t→B305_0_1_0 (lstA TP.E k) (lstA TP.E l) o (ownV TP.E 90000 h) s p q v u101 [(90000,ownB TP.E 38 h),(100010,some ⟨[intA d,intA e],38⟩),(100011,some ⟨[intA f,intA g],38⟩),(300041,some ⟨[intA i,intA j],38⟩)] R N0 N1 N2:=by
 unfold S305_0_1_0 B305_0_1_0
 refine cond_b (fun _=> ?_) (fun _=> ?_)
 ·refine bind_b fun a w=> ?_
  refine imp (opM_of (show _=some ((AV.ept [intA a.X,intA a.Y] 0),[]) from (idx_lst (E:=TP.E) rfl w))) ?_
  refine imp (opM_of (show _=some ((AV.agg [intA a.X,intA a.Y]),[]) from rfl)) ?_
  refine imp exA2_b ?_
  iterate 2 refine imp ex_i64_b ?_
  refine bind_b fun c x=> ?_
  refine imp (callF_says (sg300 x)) ?_
  refine imp exA2_b ?_
  iterate 2 refine imp ex_i64_b ?_
  refine imp (storeW_cells (sz:=2) krE krE rfl rfl (cs:=[intA (0),intA (0)]) (cs':=[intA a.X,intA a.Y]) (ty:=38) (by first|rfl|(rw [look'_mem (by first|rfl|simp [topId_blk]|simp [topId])];first|rfl|(simp (disch:=first|decide|assumption) only [lk]))) rfl rfl) ?_
  refine imp (storeW_cells (sz:=2) krE krE rfl rfl (cs:=[intA (0),intA (0)]) (cs':=[intA c.X,intA c.Y]) (ty:=38) (by first|rfl|(rw [look'_mem (by first|rfl|simp [topId_blk]|simp [topId])];first|rfl|(simp (disch:=first|decide|assumption) only [lk]))) rfl rfl) ?_
  refine imp (chk_of krE) ?_
  refine iq (AV.agg [intA a.X,intA a.Y]) (ldA_ptr (b:=⟨[intA a.X,intA a.Y],38⟩) (by first|rfl|(simp (disch:=first|decide|assumption) only [lk])) rfl) ?_
  refine imp exA2_b ?_
  iterate 2 refine imp ex_i64_b ?_
  refine iq (AV.agg [intA c.X,intA c.Y]) (ldA_ptr (b:=⟨[intA c.X,intA c.Y],38⟩) (by first|rfl|(simp (disch:=first|decide|assumption) only [lk])) rfl) ?_
  refine imp exA2_b ?_
  iterate 2 refine imp ex_i64_b ?_
  refine iq (AV.agg [intA i,intA j]) (ldA_ptr (b:=⟨[intA i,intA j],38⟩) (by first|rfl|(simp (disch:=first|decide|assumption) only [lk])) rfl) ?_
  refine imp exA2_b ?_
  iterate 2 refine imp ex_i64_b ?_
  refine bind_b fun ae z=> ?_
  refine imp (callQ_says (sg306 z)) ?_
  refine imp exB_b ?_
  refine cond_b (fun _=> ?_) (fun _=> ?_)
  ·refine iq (AV.agg [intA f,intA g]) (ldA_ptr (b:=⟨[intA f,intA g],38⟩) (by first|rfl|(simp (disch:=first|decide|assumption) only [lk])) rfl) ?_
   refine imp exA2_b ?_
   iterate 2 refine imp ex_i64_b ?_
   refine iq (AV.agg [intA d,intA e]) (ldA_ptr (b:=⟨[intA d,intA e],38⟩) (by first|rfl|(simp (disch:=first|decide|assumption) only [lk])) rfl) ?_
   refine imp exA2_b ?_
   iterate 2 refine imp ex_i64_b ?_
   refine bind_b fun af aa=> ?_
   refine imp (callQ_says (sg242 aa)) ?_
   refine imp exA2_b ?_
   iterate 2 refine imp ex_i64_b ?_
   refine iq (AV.agg [intA c.X,intA c.Y]) (ldA_ptr (b:=⟨[intA c.X,intA c.Y],38⟩) (by first|rfl|(simp (disch:=first|decide|assumption) only [lk])) rfl) ?_
   refine imp exA2_b ?_
   iterate 2 refine imp ex_i64_b ?_
   refine iq (AV.agg [intA a.X,intA a.Y]) (ldA_ptr (b:=⟨[intA a.X,intA a.Y],38⟩) (by first|rfl|(simp (disch:=first|decide|assumption) only [lk])) rfl) ?_
   refine imp exA2_b ?_
   iterate 2 refine imp ex_i64_b ?_
   refine bind_b fun ag ab=> ?_
   refine imp (callQ_says (sg242 ab)) ?_
   refine imp exA2_b ?_
   iterate 2 refine imp ex_i64_b ?_
   refine bind_b fun ah ad=> ?_
   refine imp (callQ_says (sg326 ad)) ?_
   refine imp ex_i64_b ?_
   refine cond_b (fun _=> ?_) (fun _=> ?_)
   ·exact rt1 hR rfl rfl
   ·exact fun hg=>hN2 _ (Option.some.inj hg).symm _ (weak_mem [(90000,90000),(100010,100010),(100011,100011),(300041,300041)] rfl rfl rfl (okW_cons (ent_lst (E:=TP.E) _ false) (okW_cons (ent_lst (E:=TP.E) _ false) (oR (oR (oR (okW_cons (ent_own (E:=TP.E) (id:=90000) (l':=h) rfl rfl) (oR (oR (oR (oR (oR (oR okW_nil)))))))))))) (okB_cons (okB_own (E:=TP.E) (ty:=38) (l':=h) rfl (show mget _ 90000=_ from (by first|rfl|(simp (disch:=first|decide|assumption) only [lk])))) (okB_cons (okB_cells (cs:=[intA d,intA e]) (ty:=38) rfl (show mget _ 100010=_ from (by first|rfl|(simp (disch:=first|decide|assumption) only [lk])))) (okB_cons (okB_cells (cs:=[intA f,intA g]) (ty:=38) rfl (show mget _ 100011=_ from (by first|rfl|(simp (disch:=first|decide|assumption) only [lk])))) (okB_cons (okB_cells (cs:=[intA i,intA j]) (ty:=38) rfl (show mget _ 300041=_ from (by first|rfl|(simp (disch:=first|decide|assumption) only [lk])))) okB_nil')))))
  ·exact fun hg=>hN2 _ (Option.some.inj hg).symm _ (weak_mem [(90000,90000),(100010,100010),(100011,100011),(300041,300041)] rfl rfl rfl (okW_cons (ent_lst (E:=TP.E) _ false) (okW_cons (ent_lst (E:=TP.E) _ false) (oR (oR (oR (okW_cons (ent_own (E:=TP.E) (id:=90000) (l':=h) rfl rfl) (oR (oR (oR (oR (oR (oR okW_nil)))))))))))) (okB_cons (okB_own (E:=TP.E) (ty:=38) (l':=h) rfl (show mget _ 90000=_ from (by first|rfl|(simp (disch:=first|decide|assumption) only [lk])))) (okB_cons (okB_cells (cs:=[intA d,intA e]) (ty:=38) rfl (show mget _ 100010=_ from (by first|rfl|(simp (disch:=first|decide|assumption) only [lk])))) (okB_cons (okB_cells (cs:=[intA f,intA g]) (ty:=38) rfl (show mget _ 100011=_ from (by first|rfl|(simp (disch:=first|decide|assumption) only [lk])))) (okB_cons (okB_cells (cs:=[intA i,intA j]) (ty:=38) rfl (show mget _ 300041=_ from (by first|rfl|(simp (disch:=first|decide|assumption) only [lk])))) okB_nil')))))
 ·exact fun hg=>hN1 _ (Option.some.inj hg).symm _ (weak_mem [(90000,90000),(100010,100010),(100011,100011)] rfl rfl rfl (okW_cons (ent_lst (E:=TP.E) _ false) (okW_cons (ent_lst (E:=TP.E) _ false) (oR (oR (oR (okW_cons (ent_own (E:=TP.E) (id:=90000) (l':=h) rfl rfl) (oR (oR (oR okW_nil))))))))) (okB_cons (okB_own (E:=TP.E) (ty:=38) (l':=h) rfl (show mget _ 90000=_ from (by first|rfl|(simp (disch:=first|decide|assumption) only [lk])))) (okB_cons (okB_cells (cs:=[intA d,intA e]) (ty:=38) rfl (show mget _ 100010=_ from (by first|rfl|(simp (disch:=first|decide|assumption) only [lk])))) (okB_cons (okB_cells (cs:=[intA f,intA g]) (ty:=38) rfl (show mget _ 100011=_ from (by first|rfl|(simp (disch:=first|decide|assumption) only [lk])))) okB_nil'))))
theorem L305_0_1_0_ok (n:Nat) (a b:List TP) (c:Bool) (o d f p g i j l q v:Int) {t:((Int×List TP)⊕((Int)⊕ρ305))} (R:AV→Mem→Prop) (N0 N1:St→Prop) (hR:∀r:ρ305,t=(.inr (.inr r))→∀u m,Ans ((boolA r)) u m→R u m) (hN0:∀y:Int,t=(.inr (.inl y))→∀s':St,Weak KK 127 0 s' (h305_0 (lstA TP.E a) (lstA TP.E b) c d y [])→N0 s') (hN1:∀y:Int×List TP,t=(.inl y)→∀s':St,Weak KK 127 0 s' (h305_0_1 (lstA TP.E a) (lstA TP.E b) c (ownV TP.E 90000 y.2) y.1 d f [(90000,ownB TP.E 38 y.2),(100010,some ⟨[intA g,intA i],38⟩),(100011,some ⟨[intA j,intA l],38⟩)])→N1 s') (k:Nat) (x:Int×List TP) (hx:iterO (fun y:Int×List TP=>S305_0_1_0 n a b c o d f p g i j l q v y.1 y.2) k x=some t) {s:St} (hw:Weak KK 127 0 s (h305_0_1_0 (lstA TP.E a) (lstA TP.E b) c (ownV TP.E 90000 x.2) o d f p x.1 [(90000,ownB TP.E 38 x.2),(100010,some ⟨[intA g,intA i],38⟩),(100011,some ⟨[intA j,intA l],38⟩),(300041,some ⟨[intA q,intA v],38⟩)])):Tri pg KK 127 0 (.loop c305_0_1_0) s (q305_0_1_0 R N0 N1):=
 L305_0_1_0 R N0 N1 (σ:=Nat×(Int×List TP)) (fun z=>iterO (fun y:Int×List TP=>S305_0_1_0 n a b c o d f p g i j l q v y.1 y.2) z.1 z.2=some t) (fun z=>(lstA TP.E a)) (fun z=>(lstA TP.E b)) (fun z=>c) (fun z=>(ownV TP.E 90000 z.2.2)) (fun z=>o) (fun z=>d) (fun z=>f) (fun z=>p) (fun z=>z.2.1) (fun z=>[(90000,ownB TP.E 38 z.2.2),(100010,some ⟨[intA g,intA i],38⟩),(100011,some ⟨[intA j,intA l],38⟩),(300041,some ⟨[intA q,intA v],38⟩)]) (fun z=>z.1) (by
  rintro ⟨k,y⟩ h
  cases k with
  |zero=>exact (iterO_zero h).elim
  |succ k=>
   obtain ⟨u,h1,h2,w⟩:=iterO_elim h
   exact B305_0_1_0_ok n a b c o d f p g i j l q v y.1 y.2 R N0 N1 _ (fun r e=>hR r (w _ e).symm) (fun y' e=>hN0 y' (w _ e).symm) (fun y' e=>hN1 y' (w _ e).symm) (fun y' e s' hw=>⟨(k,y'),h2 _ e,Nat.lt_succ_self k,hw⟩) h1) (k,x) hx hw
theorem B305_0_1_ok (n:Nat) (q d:List TP) (s:Bool) (v w e f g h c:Int) (a:List TP) {t:(Int×List TP)⊕((Int)⊕ρ305)} (R:AV→Mem→Prop) (N0 N1:St→Prop) (hR:∀r:ρ305,t=(.inr (.inr r))→∀u m,Ans ((boolA r)) u m→R u m) (hN0:∀y:Int,t=(.inr (.inl y))→∀s':St,Weak KK 127 0 s' (h305_0 (lstA TP.E q) (lstA TP.E d) s v y [])→N0 s') (hN1:∀y:Int×List TP,t=(.inl y)→∀s':St,Weak KK 127 0 s' (h305_0_1 (lstA TP.E q) (lstA TP.E d) s (ownV TP.E 90000 y.2) y.1 v w [(90000,ownB TP.E 38 y.2),(100010,some ⟨[intA e,intA f],38⟩),(100011,some ⟨[intA g,intA h],38⟩)])→N1 s'):S305_0_1 n q d s v w e f g h c a=some t→B305_0_1 (lstA TP.E q) (lstA TP.E d) s (ownV TP.E 90000 a) c v w [(90000,ownB TP.E 38 a),(100010,some ⟨[intA e,intA f],38⟩),(100011,some ⟨[intA g,intA h],38⟩)] R N0 N1:=by
 unfold S305_0_1 B305_0_1
 refine imp (opP_of (show _=some ((intA (a.length:Int)),[]) from len_own)) ?_
 refine imp ex_i64_b ?_
 refine cond_b (fun _=> ?_) (fun _=> ?_)
 ·refine bind_b fun x aa=> ?_
  refine iq (AV.ptr 90000 (((c:Int).toNat)*2+0)) (idx_own (E:=TP.E) rfl aa) ?_
  refine iq (AV.agg [intA x.X,intA x.Y]) (ldA_blk (E:=TP.E) (l:=a) (ty:=38) rfl (own_some (ty:=38) (by first|rfl|(simp (disch:=first|decide|assumption) only [lk])) (getI_some aa).2) (getI_some aa).2 rfl) ?_
  refine imp exA2_b ?_
  iterate 2 refine imp ex_i64_b ?_
  refine bind_b fun z ab=> ?_
  refine iq (AV.ptr 90000 ((((IntKind.wrap .i64 (c-(1))):Int).toNat)*2+0)) (idx_own (E:=TP.E) rfl ab) ?_
  refine iq (AV.agg [intA z.X,intA z.Y]) (ldA_blk (E:=TP.E) (l:=a) (ty:=38) rfl (own_some (ty:=38) (by first|rfl|(simp (disch:=first|decide|assumption) only [lk])) (getI_some ab).2) (getI_some ab).2 rfl) ?_
  refine imp exA2_b ?_
  iterate 2 refine imp ex_i64_b ?_
  refine iq (boolA (decide (x=z))) (TP.eql38 (x) (z)) ?_
  refine imp exB_b ?_
  refine cond_b (fun _=> ?_) (fun _=> ?_)
  ·exact fun hg=>hN1 _ (Option.some.inj hg).symm _ (weak_mem [(90000,90000),(100010,100010),(100011,100011)] rfl rfl rfl (okW_cons (ent_lst (E:=TP.E) _ false) (okW_cons (ent_lst (E:=TP.E) _ false) (oR (oR (oR (okW_cons (ent_own (E:=TP.E) (id:=90000) (l':=a) rfl rfl) (oR (oR (oR okW_nil))))))))) (okB_cons (okB_own (E:=TP.E) (ty:=38) (l':=a) rfl (show mget _ 90000=_ from (by first|rfl|(simp (disch:=first|decide|assumption) only [lk])))) (okB_cons (okB_cells (cs:=[intA e,intA f]) (ty:=38) rfl (show mget _ 100010=_ from (by first|rfl|(simp (disch:=first|decide|assumption) only [lk])))) (okB_cons (okB_cells (cs:=[intA g,intA h]) (ty:=38) rfl (show mget _ 100011=_ from (by first|rfl|(simp (disch:=first|decide|assumption) only [lk])))) okB_nil'))))
  ·refine bind_b fun i ad=> ?_
   refine imp (opM_of (show _=some ((AV.ptr 90000 (((c:Int).toNat)*2+0)),[]) from (idx_own (E:=TP.E) rfl ad))) ?_
   refine imp (opM_of (show _=some ((AV.ptr 90000 (((c:Int).toNat)*2+0)),[]) from rfl)) ?_
   refine imp (opM_of (show _=some ((intA i.X),[]) from (ldS_blk (E:=TP.E) (l:=a) (ty:=38) (o:=0) (own_some (ty:=38) (by first|rfl|(rw [look'_mem (by first|rfl|simp [topId_blk]|simp [topId])];first|rfl|(simp (disch:=first|decide|assumption) only [lk]))) (getI_some ad).2) (getI_some ad).2 rfl (by decide) rfl))) ?_
   refine imp ex_i64_b ?_
   refine bind_b fun j ae=> ?_
   refine imp (opM_of (show _=some ((AV.ptr 90000 ((((IntKind.wrap .i64 (c-(1))):Int).toNat)*2+0)),[]) from (idx_own (E:=TP.E) rfl ae))) ?_
   refine imp (opM_of (show _=some ((AV.ptr 90000 ((((IntKind.wrap .i64 (c-(1))):Int).toNat)*2+0)),[]) from rfl)) ?_
   refine imp (opM_of (show _=some ((intA j.X),[]) from (ldS_blk (E:=TP.E) (l:=a) (ty:=38) (o:=0) (own_some (ty:=38) (by first|rfl|(rw [look'_mem (by first|rfl|simp [topId_blk]|simp [topId])];first|rfl|(simp (disch:=first|decide|assumption) only [lk]))) (getI_some ae).2) (getI_some ae).2 rfl (by decide) rfl))) ?_
   refine imp ex_i64_b ?_
   refine bind_b fun k af=> ?_
   refine imp (opM_of (show _=some ((AV.ptr 90000 (((c:Int).toNat)*2+0)),[]) from (idx_own (E:=TP.E) rfl af))) ?_
   refine imp (opM_of (show _=some ((AV.ptr 90000 (((c:Int).toNat)*2+1)),[]) from rfl)) ?_
   refine imp (opM_of (show _=some ((intA k.Y),[]) from (ldS_blk (E:=TP.E) (l:=a) (ty:=38) (o:=1) (own_some (ty:=38) (by first|rfl|(rw [look'_mem (by first|rfl|simp [topId_blk]|simp [topId])];first|rfl|(simp (disch:=first|decide|assumption) only [lk]))) (getI_some af).2) (getI_some af).2 rfl (by decide) rfl))) ?_
   refine imp ex_i64_b ?_
   refine bind_b fun p ag=> ?_
   refine imp (opM_of (show _=some ((AV.ptr 90000 ((((IntKind.wrap .i64 (c-(1))):Int).toNat)*2+0)),[]) from (idx_own (E:=TP.E) rfl ag))) ?_
   refine imp (opM_of (show _=some ((AV.ptr 90000 ((((IntKind.wrap .i64 (c-(1))):Int).toNat)*2+1)),[]) from rfl)) ?_
   refine imp (opM_of (show _=some ((intA p.Y),[]) from (ldS_blk (E:=TP.E) (l:=a) (ty:=38) (o:=1) (own_some (ty:=38) (by first|rfl|(rw [look'_mem (by first|rfl|simp [topId_blk]|simp [topId])];first|rfl|(simp (disch:=first|decide|assumption) only [lk]))) (getI_some ag).2) (getI_some ag).2 rfl (by decide) rfl))) ?_
   refine imp ex_i64_b ?_
   refine imp (opM_of (show _=some ((AV.agg [intA (IntKind.wrap .i64 (Int.tdiv (IntKind.wrap .i64 (i.X+j.X)) (2))),intA (IntKind.wrap .i64 (Int.tdiv (IntKind.wrap .i64 (k.Y+p.Y)) (2)))]),[]) from rfl)) ?_
   refine imp (storeW_cells (sz:=2) krE krE rfl rfl (cs:=[intA (0),intA (0)]) (cs':=[intA (IntKind.wrap .i64 (Int.tdiv (IntKind.wrap .i64 (i.X+j.X)) (2))),intA (IntKind.wrap .i64 (Int.tdiv (IntKind.wrap .i64 (k.Y+p.Y)) (2)))]) (ty:=38) (by first|rfl|(rw [look'_mem (by first|rfl|simp [topId_blk]|simp [topId])];first|rfl|(simp (disch:=first|decide|assumption) only [lk]))) rfl rfl) ?_
   refine imp (chk_of krE) ?_
   refine iq (AV.agg [intA (IntKind.wrap .i64 (Int.tdiv (IntKind.wrap .i64 (i.X+j.X)) (2))),intA (IntKind.wrap .i64 (Int.tdiv (IntKind.wrap .i64 (k.Y+p.Y)) (2)))]) (ldA_ptr (b:=⟨[intA (IntKind.wrap .i64 (Int.tdiv (IntKind.wrap .i64 (i.X+j.X)) (2))),intA (IntKind.wrap .i64 (Int.tdiv (IntKind.wrap .i64 (k.Y+p.Y)) (2)))],38⟩) (by first|rfl|(simp (disch:=first|decide|assumption) only [lk])) rfl) ?_
   refine imp exA2_b ?_
   iterate 2 refine imp ex_i64_b ?_
   refine bind_b fun ai ah=> ?_
   refine imp (callQ_says (sg246 ah)) ?_
   refine imp ex_i64_b ?_
   refine cond_b (fun _=> ?_) (fun _=> ?_)
   ·exact rt1 hR rfl rfl
   ·refine cond_b (fun _=> ?_) (fun _=> ?_)
    ·refine iq (intA (d.length:Int)) rfl ?_
     refine imp ex_i64_b ?_
     exact fun hg=>L305_0_1_0_ok n q d s c v w (d.length:Int) e f g h (IntKind.wrap .i64 (Int.tdiv (IntKind.wrap .i64 (i.X+j.X)) (2))) (IntKind.wrap .i64 (Int.tdiv (IntKind.wrap .i64 (k.Y+p.Y)) (2))) R N0 N1 hR hN0 hN1 n _ hg (weak_mem [(90000,90000),(100010,100010),(100011,100011),(300041,300041)] rfl rfl rfl (okW_cons (ent_lst (E:=TP.E) _ false) (okW_cons (ent_lst (E:=TP.E) _ false) (oR (oR (oR (okW_cons (ent_own (E:=TP.E) (id:=90000) (l':=a) rfl rfl) (oR (oR (oR (oR (oR (oR okW_nil)))))))))))) (okB_cons (okB_own (E:=TP.E) (ty:=38) (l':=a) rfl (show mget _ 90000=_ from (by first|rfl|(simp (disch:=first|decide|assumption) only [lk])))) (okB_cons (okB_cells (cs:=[intA e,intA f]) (ty:=38) rfl (show mget _ 100010=_ from (by first|rfl|(simp (disch:=first|decide|assumption) only [lk])))) (okB_cons (okB_cells (cs:=[intA g,intA h]) (ty:=38) rfl (show mget _ 100011=_ from (by first|rfl|(simp (disch:=first|decide|assumption) only [lk])))) (okB_cons (okB_cells (cs:=[intA (IntKind.wrap .i64 (Int.tdiv (IntKind.wrap .i64 (i.X+j.X)) (2))),intA (IntKind.wrap .i64 (Int.tdiv (IntKind.wrap .i64 (k.Y+p.Y)) (2)))]) (ty:=38) rfl (show mget _ 300041=_ from (by first|rfl|(simp (disch:=first|decide|assumption) only [lk])))) okB_nil')))))
    ·exact fun hg=>hN1 _ (Option.some.inj hg).symm _ (weak_mem [(90000,90000),(100010,100010),(100011,100011)] rfl rfl rfl (okW_cons (ent_lst (E:=TP.E) _ false) (okW_cons (ent_lst (E:=TP.E) _ false) (oR (oR (oR (okW_cons (ent_own (E:=TP.E) (id:=90000) (l':=a) rfl rfl) (oR (oR (oR okW_nil))))))))) (okB_cons (okB_own (E:=TP.E) (ty:=38) (l':=a) rfl (show mget _ 90000=_ from (by first|rfl|(simp (disch:=first|decide|assumption) only [lk])))) (okB_cons (okB_cells (cs:=[intA e,intA f]) (ty:=38) rfl (show mget _ 100010=_ from (by first|rfl|(simp (disch:=first|decide|assumption) only [lk])))) (okB_cons (okB_cells (cs:=[intA g,intA h]) (ty:=38) rfl (show mget _ 100011=_ from (by first|rfl|(simp (disch:=first|decide|assumption) only [lk])))) okB_nil'))))
 ·exact fun hg=>hN0 _ (Option.some.inj hg).symm _ (weak_mem [] rfl rfl rfl (okW_cons (ent_lst (E:=TP.E) _ false) (okW_cons (ent_lst (E:=TP.E) _ false) (oR (oR (oR okW_nil))))) okB_nil')
theorem L305_0_1_ok (n:Nat) (a b:List TP) (c:Bool) (d f g i j l:Int) {t:((Int)⊕ρ305)} (R:AV→Mem→Prop) (N0:St→Prop) (hR:∀r:ρ305,t=(.inr r)→∀u m,Ans ((boolA r)) u m→R u m) (hN0:∀y:Int,t=(.inl y)→∀s':St,Weak KK 127 0 s' (h305_0 (lstA TP.E a) (lstA TP.E b) c d y [])→N0 s') (k:Nat) (x:Int×List TP) (hx:iterO (fun y:Int×List TP=>S305_0_1 n a b c d f g i j l y.1 y.2) k x=some t) {s:St} (hw:Weak KK 127 0 s (h305_0_1 (lstA TP.E a) (lstA TP.E b) c (ownV TP.E 90000 x.2) x.1 d f [(90000,ownB TP.E 38 x.2),(100010,some ⟨[intA g,intA i],38⟩),(100011,some ⟨[intA j,intA l],38⟩)])):Tri pg KK 127 0 (.loop c305_0_1) s (q305_0_1 R N0):=
 L305_0_1 R N0 (σ:=Nat×(Int×List TP)) (fun z=>iterO (fun y:Int×List TP=>S305_0_1 n a b c d f g i j l y.1 y.2) z.1 z.2=some t) (fun z=>(lstA TP.E a)) (fun z=>(lstA TP.E b)) (fun z=>c) (fun z=>(ownV TP.E 90000 z.2.2)) (fun z=>z.2.1) (fun z=>d) (fun z=>f) (fun z=>[(90000,ownB TP.E 38 z.2.2),(100010,some ⟨[intA g,intA i],38⟩),(100011,some ⟨[intA j,intA l],38⟩)]) (fun z=>z.1) (by
  rintro ⟨k,y⟩ h
  cases k with
  |zero=>exact (iterO_zero h).elim
  |succ k=>
   obtain ⟨u,p,q,o⟩:=iterO_elim h
   exact B305_0_1_ok n a b c d f g i j l y.1 y.2 R N0 _ (fun r e=>hR r (o _ e).symm) (fun y' e=>hN0 y' (o _ e).symm) (fun y' e s' hw=>⟨(k,y'),q _ e,Nat.lt_succ_self k,hw⟩) p) (k,x) hx hw
theorem B305_0_0_ok (n:Nat) (k j:List TP) (o:Bool) (p q s d f g i v:Int) (a:List TP) {t:(Int×List TP)⊕((Int)⊕ρ305)} (R:AV→Mem→Prop) (N0 N1:St→Prop) (hR:∀r:ρ305,t=(.inr (.inr r))→∀u m,Ans ((boolA r)) u m→R u m) (hN0:∀y:Int,t=(.inr (.inl y))→∀s':St,Weak KK 127 0 s' (h305_0 (lstA TP.E k) (lstA TP.E j) o p y [])→N0 s') (hN1:∀y:Int×List TP,t=(.inl y)→∀s':St,Weak KK 127 0 s' (h305_0_0 (lstA TP.E k) (lstA TP.E j) o (ownV TP.E 90000 y.2) p q (lstA TP.E j) s y.1 [(90000,ownB TP.E 38 y.2),(100010,some ⟨[intA d,intA f],38⟩),(100011,some ⟨[intA g,intA i],38⟩)])→N1 s'):S305_0_0 n k j o p q s d f g i v a=some t→B305_0_0 (lstA TP.E k) (lstA TP.E j) o (ownV TP.E 90000 a) p q (lstA TP.E j) s v [(90000,ownB TP.E 38 a),(100010,some ⟨[intA d,intA f],38⟩),(100011,some ⟨[intA g,intA i],38⟩)] R N0 N1:=by
 unfold S305_0_0 B305_0_0
 refine cond_b (fun _=> ?_) (fun _=> ?_)
 ·refine bind_b fun c ab=> ?_
  refine iq (AV.ept [intA c.X,intA c.Y] 0) (idx_lst (E:=TP.E) rfl ab) ?_
  refine iq (AV.agg [intA c.X,intA c.Y]) rfl ?_
  refine imp exA2_b ?_
  iterate 2 refine imp ex_i64_b ?_
  refine iq (AV.agg [intA d,intA f]) (ldA_ptr (b:=⟨[intA d,intA f],38⟩) (by first|rfl|(simp (disch:=first|decide|assumption) only [lk])) rfl) ?_
  refine imp exA2_b ?_
  iterate 2 refine imp ex_i64_b ?_
  refine iq (AV.agg [intA g,intA i]) (ldA_ptr (b:=⟨[intA g,intA i],38⟩) (by first|rfl|(simp (disch:=first|decide|assumption) only [lk])) rfl) ?_
  refine imp exA2_b ?_
  iterate 2 refine imp ex_i64_b ?_
  refine bind_b fun af ad=> ?_
  refine imp (callQ_says (sg306 ad)) ?_
  refine imp exB_b ?_
  refine cond_b (fun _=> ?_) (fun _=> ?_)
  ·refine imp (opN_of (show _=some ((blkV TP.E 200074 ([c]:List TP)),[(200074,some ⟨encs TP.E ([c]:List TP),38⟩)]) from rfl)) ?_
   refine bind_b fun ag ae=> ?_
   refine imp (opN_of (show _=some ((ownV TP.E 200075 (a++([c]:List TP))),(appW TP.E 200075 90000 38 a ([c]:List TP))) from (app_own (E:=TP.E) (l':=a) (xs:=([c]:List TP)) rfl rfl (cellsOf_blk (E:=TP.E) (ty:=38) rfl rfl (by first|rfl|(simp (disch:=first|decide|assumption) only [lk]))) asE rfl (fun hne=>Eq.trans (by first|rfl|(simp (disch:=first|decide|assumption) only [lk])) (ownB_ne hne)) ae))) ?_
   exact fun hg=>hN1 _ (Option.some.inj hg).symm _ (weak_mem [(90000,200075),(100010,100010),(100011,100011)] rfl rfl rfl (okW_cons (ent_lst (E:=TP.E) _ false) (okW_cons (ent_lst (E:=TP.E) _ false) (oR (oR (oR (okW_cons (ent_own (E:=TP.E) (id:=200075) (l':=(a++([c]:List TP))) rfl rfl) (oR (oR (okW_cons (ent_lst (E:=TP.E) _ false) (oR (oR okW_nil))))))))))) (okB_cons (okB_own (E:=TP.E) (ty:=38) (l':=(a++([c]:List TP))) rfl (show mget _ 200075=_ from (by first|rfl|(simp (disch:=first|decide|assumption) only [lk])))) (okB_cons (okB_cells (cs:=[intA d,intA f]) (ty:=38) rfl (show mget _ 100010=_ from (by first|rfl|(simp (disch:=first|decide|assumption) only [lk])))) (okB_cons (okB_cells (cs:=[intA g,intA i]) (ty:=38) rfl (show mget _ 100011=_ from (by first|rfl|(simp (disch:=first|decide|assumption) only [lk])))) okB_nil'))))
  ·exact fun hg=>hN1 _ (Option.some.inj hg).symm _ (weak_mem [(90000,90000),(100010,100010),(100011,100011)] rfl rfl rfl (okW_cons (ent_lst (E:=TP.E) _ false) (okW_cons (ent_lst (E:=TP.E) _ false) (oR (oR (oR (okW_cons (ent_own (E:=TP.E) (id:=90000) (l':=a) rfl rfl) (oR (oR (okW_cons (ent_lst (E:=TP.E) _ false) (oR (oR okW_nil))))))))))) (okB_cons (okB_own (E:=TP.E) (ty:=38) (l':=a) rfl (show mget _ 90000=_ from (by first|rfl|(simp (disch:=first|decide|assumption) only [lk])))) (okB_cons (okB_cells (cs:=[intA d,intA f]) (ty:=38) rfl (show mget _ 100010=_ from (by first|rfl|(simp (disch:=first|decide|assumption) only [lk])))) (okB_cons (okB_cells (cs:=[intA g,intA i]) (ty:=38) rfl (show mget _ 100011=_ from (by first|rfl|(simp (disch:=first|decide|assumption) only [lk])))) okB_nil'))))
 ·refine bind_b fun w aa=> ?_
  have lh153:=sortO_len aa
  refine imp (callW_sortV (hx:=rfl) (E:=TP.E) (ty:=38) (l:=a) (cmp:=(fun x y=>g338 n x y d f)) rfl TP.ok sorts337 none337 plain337 rfl (by first|rfl|(simp (disch:=first|decide|assumption) only [lk])) (capsOk_cons (.inr ⟨_,_,_,_,rfl,by decide,(by first|rfl|(simp (disch:=first|decide|assumption) only [lk])),by first|rfl|simp [cleans,clean,encs_clean],rfl⟩) capsOk_nil) (fun x y z h=>sg338 h) aa) ?_
  refine imp exT0_b ?_
  refine mapInr_b fun t0 e0=> ?_
  exact fun hg=>L305_0_1_ok n k j o p q d f g i R N0 (fun r e=>hR r (e0.trans (congrArg Sum.inr e))) (fun y e=>hN0 y (e0.trans (congrArg Sum.inr e))) n _ hg (weak_mem [(90000,90000),(100010,100010),(100011,100011)] rfl rfl rfl (okW_cons (ent_lst (E:=TP.E) _ false) (okW_cons (ent_lst (E:=TP.E) _ false) (oR (oR (oR (okW_cons (ent_own (E:=TP.E) (id:=90000) (l':=w) (by first|rfl|omega|(simp;done)|(simp;omega)) rfl) (oR (oR (oR okW_nil))))))))) (okB_cons (okB_own (E:=TP.E) (ty:=38) (l':=w) rfl (show mget _ 90000=_ from (by first|rfl|(simp (disch:=first|decide|assumption) only [lk])))) (okB_cons (okB_cells (cs:=[intA d,intA f]) (ty:=38) rfl (show mget _ 100010=_ from (by first|rfl|(simp (disch:=first|decide|assumption) only [lk])))) (okB_cons (okB_cells (cs:=[intA g,intA i]) (ty:=38) rfl (show mget _ 100011=_ from (by first|rfl|(simp (disch:=first|decide|assumption) only [lk])))) okB_nil'))))
theorem L305_0_0_ok (n:Nat) (b a:List TP) (c:Bool) (d f g i j l o:Int) {t:((Int)⊕ρ305)} (R:AV→Mem→Prop) (N0:St→Prop) (hR:∀r:ρ305,t=(.inr r)→∀u m,Ans ((boolA r)) u m→R u m) (hN0:∀y:Int,t=(.inl y)→∀s':St,Weak KK 127 0 s' (h305_0 (lstA TP.E b) (lstA TP.E a) c d y [])→N0 s') (k:Nat) (x:Int×List TP) (hx:iterO (fun y:Int×List TP=>S305_0_0 n b a c d f g i j l o y.1 y.2) k x=some t) {s:St} (hw:Weak KK 127 0 s (h305_0_0 (lstA TP.E b) (lstA TP.E a) c (ownV TP.E 90000 x.2) d f (lstA TP.E a) g x.1 [(90000,ownB TP.E 38 x.2),(100010,some ⟨[intA i,intA j],38⟩),(100011,some ⟨[intA l,intA o],38⟩)])):Tri pg KK 127 0 (.loop c305_0_0) s (q305_0_0 R N0):=
 L305_0_0 R N0 (σ:=Nat×(Int×List TP)) (fun z=>iterO (fun y:Int×List TP=>S305_0_0 n b a c d f g i j l o y.1 y.2) z.1 z.2=some t) (fun z=>(lstA TP.E b)) (fun z=>(lstA TP.E a)) (fun z=>c) (fun z=>(ownV TP.E 90000 z.2.2)) (fun z=>d) (fun z=>f) (fun z=>(lstA TP.E a)) (fun z=>g) (fun z=>z.2.1) (fun z=>[(90000,ownB TP.E 38 z.2.2),(100010,some ⟨[intA i,intA j],38⟩),(100011,some ⟨[intA l,intA o],38⟩)]) (fun z=>z.1) (by
  rintro ⟨k,y⟩ h
  cases k with
  |zero=>exact (iterO_zero h).elim
  |succ k=>
   obtain ⟨u,q,v,p⟩:=iterO_elim h
   exact B305_0_0_ok n b a c d f g i j l o y.1 y.2 R N0 _ (fun r e=>hR r (p _ e).symm) (fun y' e=>hN0 y' (p _ e).symm) (fun y' e s' hw=>⟨(k,y'),v _ e,Nat.lt_succ_self k,hw⟩) q) (k,x) hx hw
theorem B305_0_ok (n:Nat) (e d:List TP) (f:Bool) (g h:Int) {t:(Int)⊕ρ305} (R:AV→Mem→Prop) (N0:St→Prop) (hR:∀r:ρ305,t=(.inr r)→∀u m,Ans ((boolA r)) u m→R u m) (hN0:∀y:Int,t=(.inl y)→∀s':St,Weak KK 127 0 s' (h305_0 (lstA TP.E e) (lstA TP.E d) f g y [])→N0 s'):S305_0 n e d f g h=some t→B305_0 (lstA TP.E e) (lstA TP.E d) f g h [] R N0:=by
 unfold S305_0 B305_0
 refine cond_b (fun _=> ?_) (fun _=> ?_)
 ·refine bind_b fun a i=> ?_
  refine imp (opM_of (show _=some ((AV.ept [intA a.X,intA a.Y] 0),[]) from (idx_lst (E:=TP.E) rfl i))) ?_
  refine imp (opM_of (show _=some ((AV.agg [intA a.X,intA a.Y]),[]) from rfl)) ?_
  refine imp exA2_b ?_
  iterate 2 refine imp ex_i64_b ?_
  refine bind_b fun c j=> ?_
  refine imp (callF_says (sg300 j)) ?_
  refine imp exA2_b ?_
  iterate 2 refine imp ex_i64_b ?_
  refine imp (storeW_cells (sz:=2) krE krE rfl rfl (cs:=[intA (0),intA (0)]) (cs':=[intA a.X,intA a.Y]) (ty:=38) (by first|rfl|(rw [look'_mem (by first|rfl|simp [topId_blk]|simp [topId])];first|rfl|(simp (disch:=first|decide|assumption) only [lk]))) rfl rfl) ?_
  refine imp (storeW_cells (sz:=2) krE krE rfl rfl (cs:=[intA (0),intA (0)]) (cs':=[intA c.X,intA c.Y]) (ty:=38) (by first|rfl|(rw [look'_mem (by first|rfl|simp [topId_blk]|simp [topId])];first|rfl|(simp (disch:=first|decide|assumption) only [lk]))) rfl rfl) ?_
  refine imp (chk_of krE) ?_
  refine iq (AV.agg [intA a.X,intA a.Y]) (ldA_ptr (b:=⟨[intA a.X,intA a.Y],38⟩) (by first|rfl|(simp (disch:=first|decide|assumption) only [lk])) rfl) ?_
  refine imp exA2_b ?_
  iterate 2 refine imp ex_i64_b ?_
  refine iq (AV.agg [intA c.X,intA c.Y]) (ldA_ptr (b:=⟨[intA c.X,intA c.Y],38⟩) (by first|rfl|(simp (disch:=first|decide|assumption) only [lk])) rfl) ?_
  refine imp exA2_b ?_
  iterate 2 refine imp ex_i64_b ?_
  refine imp (opN_of (show _=some ((blkV TP.E 100016 ([a,c]:List TP)),[(100016,some ⟨encs TP.E ([a,c]:List TP),38⟩)]) from rfl)) ?_
  refine iq (intA (d.length:Int)) rfl ?_
  refine imp ex_i64_b ?_
  exact fun hg=>L305_0_0_ok n e d f g h (d.length:Int) a.X a.Y c.X c.Y R N0 hR hN0 n _ hg (weak_mem [(90000,100016),(100010,100010),(100011,100011)] rfl rfl rfl (okW_cons (ent_lst (E:=TP.E) _ false) (okW_cons (ent_lst (E:=TP.E) _ false) (oR (oR (oR (okW_cons (ent_blk_own (E:=TP.E) (id:=100016) (l':=([a,c]:List TP)) (by simp) rfl rfl) (oR (oR (okW_cons (ent_lst (E:=TP.E) _ false) (oR (oR okW_nil))))))))))) (okB_cons (okB_own (E:=TP.E) (ty:=38) (l':=([a,c]:List TP)) rfl (Eq.trans (show mget _ 100016=_ from (by first|rfl|(simp (disch:=first|decide|assumption) only [lk]))) (Eq.symm (ownB_ne (by simp))))) (okB_cons (okB_cells (cs:=[intA a.X,intA a.Y]) (ty:=38) rfl (show mget _ 100010=_ from (by first|rfl|(simp (disch:=first|decide|assumption) only [lk])))) (okB_cons (okB_cells (cs:=[intA c.X,intA c.Y]) (ty:=38) rfl (show mget _ 100011=_ from (by first|rfl|(simp (disch:=first|decide|assumption) only [lk])))) okB_nil'))))
 ·exact rt1 hR rfl rfl
theorem L305_0_ok (n:Nat) (a b:List TP) (c:Bool) (d:Int) {t:ρ305} (R:AV→Mem→Prop) (hR:∀r:ρ305,t=r→∀u m,Ans ((boolA r)) u m→R u m) (k:Nat) (x:Int) (hx:iterO (fun y:Int=>S305_0 n a b c d y) k x=some t) {s:St} (hw:Weak KK 127 0 s (h305_0 (lstA TP.E a) (lstA TP.E b) c d x [])):Tri pg KK 127 0 (.loop c305_0) s (q305_0 R):=
 L305_0 R (σ:=Nat×(Int)) (fun z=>iterO (fun y:Int=>S305_0 n a b c d y) z.1 z.2=some t) (fun z=>(lstA TP.E a)) (fun z=>(lstA TP.E b)) (fun z=>c) (fun z=>d) (fun z=>z.2) (fun z=>[]) (fun z=>z.1) (by
  rintro ⟨k,y⟩ h
  cases k with
  |zero=>exact (iterO_zero h).elim
  |succ k=>
   obtain ⟨u,f,g,i⟩:=iterO_elim h
   exact B305_0_ok n a b c d y R _ (fun r e=>hR r (i _ e).symm) (fun y' e s' hw=>⟨(k,y'),g _ e,Nat.lt_succ_self k,hw⟩) f) (k,x) hx hw
theorem g305_ok (n:Nat) (a b:List TP) {t:ρ305} (R:AV→Mem→Prop) (hR:∀r:ρ305,t=r→∀u m,Ans ((boolA r)) u m→R u m):g305 n a b=some t→F305 (lstA TP.E a) (lstA TP.E b) R:=by
 unfold g305 F305
 refine iq (intA (a.length:Int)) rfl ?_
 refine imp ex_i64_b ?_
 exact fun hg=>L305_0_ok n a b false (a.length:Int) R hR n _ hg (weak_mem [] rfl rfl rfl (okW_cons (ent_lst (E:=TP.E) _ false) (okW_cons (ent_lst (E:=TP.E) _ false) (oR (oR (oR okW_nil))))) okB_nil')
theorem sg305 {n:Nat} {a:List TP} {b:List TP} {t:ρ305} (h:g305 n a b=some t):Says pg KK.gl 305 [lstA TP.E a,lstA TP.E b] ((boolA t)):=
 says_of_own (by first|rfl|simp [cleans,clean,encs_clean,En.cln]) (by first|rfl|simp [cleans,clean,encs_clean,En.cln]) (F305_own (lstA TP.E a) (lstA TP.E b) _ (g305_ok n a b (Ans ((boolA t))) (fun r e u m h=>by rw [e];exact h) h))
/- skyway/polygon.Overlap -/
theorem B244_1_0_ok (n:Nat) (b c:List TP) (d:Bool) (c5 a e h i:Int) {t:(Int)⊕((Int)⊕ρ244)} (R:AV→Mem→Prop) (N0 N1:St→Prop) (hR:∀r:ρ244,t=(.inr (.inr r))→∀u m,Ans ((AV.tup [boolA r.1,intA r.2])) u m→R u m) (hN0:∀y:Int,t=(.inr (.inl y))→∀s':St,Weak KK 64 0 s' (h244_1 (lstA TP.E b) (lstA TP.E c) d c5 e y [])→N0 s') (hN1:∀y:Int,t=(.inl y)→∀s':St,Weak KK 64 0 s' (h244_1_0 (lstA TP.E b) (lstA TP.E c) d c5 a e a h y [])→N1 s'):S244_1_0 n b c d c5 a e h i=some t→B244_1_0 (lstA TP.E b) (lstA TP.E c) d c5 a e a h i [] R N0 N1:=by
 unfold S244_1_0 B244_1_0
 refine cond_b (fun _=> ?_) (fun _=> ?_)
 ·refine bind_b fun f j=> ?_
  refine iq (AV.ept [intA f.X,intA f.Y] 0) (idx_lst (E:=TP.E) rfl j) ?_
  refine iq (AV.agg [intA f.X,intA f.Y]) rfl ?_
  refine imp exA2_b ?_
  iterate 2 refine imp ex_i64_b ?_
  refine bind_b fun q k=> ?_
  refine imp (callQ_says (sg300 k)) ?_
  refine imp exA2_b ?_
  iterate 2 refine imp ex_i64_b ?_
  refine bind_b fun g l=> ?_
  refine iq (AV.ept [intA g.X,intA g.Y] 0) (idx_lst (E:=TP.E) rfl l) ?_
  refine iq (AV.agg [intA g.X,intA g.Y]) rfl ?_
  refine imp exA2_b ?_
  iterate 2 refine imp ex_i64_b ?_
  refine bind_b fun s o=> ?_
  refine imp (callQ_says (sg300 o)) ?_
  refine imp exA2_b ?_
  iterate 2 refine imp ex_i64_b ?_
  refine bind_b fun v p=> ?_
  refine imp (callQ_says (sg303 p)) ?_
  refine imp exB_b ?_
  refine cond_b (fun _=> ?_) (fun _=> ?_)
  ·exact fun hg=>retN rfl (hR _ (Option.some.inj hg).symm) (fS (fS fzL_nil))
  ·exact fun hg=>hN1 _ (Option.some.inj hg).symm _ (weak_mem [] rfl rfl rfl (okW_cons (ent_lst (E:=TP.E) _ false) (okW_cons (ent_lst (E:=TP.E) _ false) (oR (oR (oR (oR (oR (oR (oR okW_nil))))))))) okB_nil')
 ·exact fun hg=>hN0 _ (Option.some.inj hg).symm _ (weak_mem [] rfl rfl rfl (okW_cons (ent_lst (E:=TP.E) _ false) (okW_cons (ent_lst (E:=TP.E) _ false) (oR (oR (oR (oR okW_nil)))))) okB_nil')
theorem L244_1_0_ok (n:Nat) (b c:List TP) (d:Bool) (c5 a f g:Int) {t:((Int)⊕ρ244)} (R:AV→Mem→Prop) (N0:St→Prop) (hR:∀r:ρ244,t=(.inr r)→∀u m,Ans ((AV.tup [boolA r.1,intA r.2])) u m→R u m) (hN0:∀y:Int,t=(.inl y)→∀s':St,Weak KK 64 0 s' (h244_1 (lstA TP.E b) (lstA TP.E c) d c5 f y [])→N0 s') (k:Nat) (x:Int) (hx:iterO (fun y:Int=>S244_1_0 n b c d c5 a f g y) k x=some t) {s:St} (hw:Weak KK 64 0 s (h244_1_0 (lstA TP.E b) (lstA TP.E c) d c5 a f a g x [])):Tri pg KK 64 0 (.loop c244_1_0) s (q244_1_0 R N0):=
 L244_1_0 R N0 (σ:=Nat×(Int)) (fun z=>iterO (fun y:Int=>S244_1_0 n b c d c5 a f g y) z.1 z.2=some t) (fun z=>(lstA TP.E b)) (fun z=>(lstA TP.E c)) (fun z=>d) (fun z=>c5) (fun z=>a) (fun z=>f) (fun z=>a) (fun z=>g) (fun z=>z.2) (fun z=>[]) (fun z=>z.1) (by
  rintro ⟨k,y⟩ h
  cases k with
  |zero=>exact (iterO_zero h).elim
  |succ k=>
   obtain ⟨u,j,l,i⟩:=iterO_elim h
   exact B244_1_0_ok n b c d c5 a f g y R N0 _ (fun r e=>hR r (i _ e).symm) (fun y' e=>hN0 y' (i _ e).symm) (fun y' e s' hw=>⟨(k,y'),l _ e,Nat.lt_succ_self k,hw⟩) j) (k,x) hx hw
theorem B244_1_ok (n:Nat) (b a:List TP) (c:Bool) (c5 d e:Int) {t:(Int)⊕ρ244} (R:AV→Mem→Prop) (N0:St→Prop) (hR:∀r:ρ244,t=(.inr r)→∀u m,Ans ((AV.tup [boolA r.1,intA r.2])) u m→R u m) (hN0:∀y:Int,t=(.inl y)→∀s':St,Weak KK 64 0 s' (h244_1 (lstA TP.E b) (lstA TP.E a) c c5 d y [])→N0 s'):S244_1 n b a c c5 d e=some t→B244_1 (lstA TP.E b) (lstA TP.E a) c c5 d e [] R N0:=by
 unfold S244_1 B244_1
 refine cond_b (fun _=> ?_) (fun _=> ?_)
 ·refine iq (intA (a.length:Int)) rfl ?_
  refine imp ex_i64_b ?_
  exact fun hg=>L244_1_0_ok n b a c c5 e d (a.length:Int) R N0 hR hN0 n _ hg (weak_mem [] rfl rfl rfl (okW_cons (ent_lst (E:=TP.E) _ false) (okW_cons (ent_lst (E:=TP.E) _ false) (oR (oR (oR (oR (oR (oR (oR okW_nil))))))))) okB_nil')
 ·refine bind_b fun j f=> ?_
  refine imp (callQ_says (sg304 f)) ?_
  refine bind_b fun k g=> ?_
  refine imp (callQ_says (sg304 g)) ?_
  refine bind_b fun l h=> ?_
  refine imp (callQ_says (sg305 h)) ?_
  refine imp exB_b ?_
  refine cond_b (fun _=> ?_) (fun _=> ?_)
  ·exact fun hg=>retN rfl (hR _ (Option.some.inj hg).symm) (fS (fS fzL_nil))
  ·refine bind_b fun o i=> ?_
   refine imp (callQ_says (sg305 i)) ?_
   refine imp exB_b ?_
   exact fun hg=>retN rfl (hR _ (Option.some.inj hg).symm) (fS (fS fzL_nil))
theorem L244_1_ok (n:Nat) (a b:List TP) (c:Bool) (c5 d:Int) {t:ρ244} (R:AV→Mem→Prop) (hR:∀r:ρ244,t=r→∀u m,Ans ((AV.tup [boolA r.1,intA r.2])) u m→R u m) (k:Nat) (x:Int) (hx:iterO (fun y:Int=>S244_1 n a b c c5 d y) k x=some t) {s:St} (hw:Weak KK 64 0 s (h244_1 (lstA TP.E a) (lstA TP.E b) c c5 d x [])):Tri pg KK 64 0 (.loop c244_1) s (q244_1 R):=
 L244_1 R (σ:=Nat×(Int)) (fun z=>iterO (fun y:Int=>S244_1 n a b c c5 d y) z.1 z.2=some t) (fun z=>(lstA TP.E a)) (fun z=>(lstA TP.E b)) (fun z=>c) (fun z=>c5) (fun z=>d) (fun z=>z.2) (fun z=>[]) (fun z=>z.1) (by
  rintro ⟨k,y⟩ h
  cases k with
  |zero=>exact (iterO_zero h).elim
  |succ k=>
   obtain ⟨u,f,g,i⟩:=iterO_elim h
   exact B244_1_ok n a b c c5 d y R _ (fun r e=>hR r (i _ e).symm) (fun y' e s' hw=>⟨(k,y'),g _ e,Nat.lt_succ_self k,hw⟩) f) (k,x) hx hw
theorem B244_0_ok (n:Nat) (a b:List TP) (c:Bool) (c5:Int) (d:List (List TP)) (f g:Int) {t:(Int)⊕ρ244} (R:AV→Mem→Prop) (N0:St→Prop) (hR:∀r:ρ244,t=(.inr r)→∀u m,Ans ((AV.tup [boolA r.1,intA r.2])) u m→R u m) (hN0:∀y:Int,t=(.inl y)→∀s':St,Weak KK 64 0 s' (h244_0 (lstA TP.E a) (lstA TP.E b) c c5 (lstA (lstE TP.E) d) f y [])→N0 s'):S244_0 n a b c c5 d f g=some t→B244_0 (lstA TP.E a) (lstA TP.E b) c c5 (lstA (lstE TP.E) d) f g [] R N0:=by
 unfold S244_0 B244_0
 refine cond_b (fun _=> ?_) (fun _=> ?_)
 ·refine bind_b fun h i=> ?_
  refine iq (AV.ept [lstA TP.E h] 0) (idx_lst (E:=(lstE TP.E)) rfl i) ?_
  refine iq (lstA TP.E h) rfl ?_
  refine bind_b fun k j=> ?_
  refine imp (callQ_says (sg243 j)) ?_
  refine imp ex_i64_b ?_
  refine cond_b (fun _=> ?_) (fun _=> ?_)
  ·exact fun hg=>retN rfl (hR _ (Option.some.inj hg).symm) (fS (fS fzL_nil))
  ·exact fun hg=>hN0 _ (Option.some.inj hg).symm _ (weak_mem [] rfl rfl rfl (okW_cons (ent_lst (E:=TP.E) _ false) (okW_cons (ent_lst (E:=TP.E) _ false) (oR (oR (okW_cons (ent_lst (E:=(lstE TP.E)) _ false) (oR (oR okW_nil))))))) okB_nil')
 ·refine iq (intA (a.length:Int)) rfl ?_
  refine imp ex_i64_b ?_
  refine mapInr_b fun l e0=> ?_
  exact fun hg=>L244_1_ok n a b c c5 (a.length:Int) R (fun r e=>hR r (e0.trans (congrArg Sum.inr e))) n _ hg (weak_mem [] rfl rfl rfl (okW_cons (ent_lst (E:=TP.E) _ false) (okW_cons (ent_lst (E:=TP.E) _ false) (oR (oR (oR (oR okW_nil)))))) okB_nil')
theorem L244_0_ok (n:Nat) (a b:List TP) (c:Bool) (c5:Int) (d:List (List TP)) (f:Int) {t:ρ244} (R:AV→Mem→Prop) (hR:∀r:ρ244,t=r→∀u m,Ans ((AV.tup [boolA r.1,intA r.2])) u m→R u m) (k:Nat) (x:Int) (hx:iterO (fun y:Int=>S244_0 n a b c c5 d f y) k x=some t) {s:St} (hw:Weak KK 64 0 s (h244_0 (lstA TP.E a) (lstA TP.E b) c c5 (lstA (lstE TP.E) d) f x [])):Tri pg KK 64 0 (.loop c244_0) s (q244_0 R):=
 L244_0 R (σ:=Nat×(Int)) (fun z=>iterO (fun y:Int=>S244_0 n a b c c5 d f y) z.1 z.2=some t) (fun z=>(lstA TP.E a)) (fun z=>(lstA TP.E b)) (fun z=>c) (fun z=>c5) (fun z=>(lstA (lstE TP.E) d)) (fun z=>f) (fun z=>z.2) (fun z=>[]) (fun z=>z.1) (by
  rintro ⟨k,y⟩ h
  cases k with
  |zero=>exact (iterO_zero h).elim
  |succ k=>
   obtain ⟨u,g,i,j⟩:=iterO_elim h
   exact B244_0_ok n a b c c5 d f y R _ (fun r e=>hR r (j _ e).symm) (fun y' e s' hw=>⟨(k,y'),i _ e,Nat.lt_succ_self k,hw⟩) g) (k,x) hx hw
theorem g244_ok (n:Nat) (a b:List TP) {t:ρ244} (R:AV→Mem→Prop) (hR:∀r:ρ244,t=r→∀u m,Ans ((AV.tup [boolA r.1,intA r.2])) u m→R u m):g244 n a b=some t→F244 (lstA TP.E a) (lstA TP.E b) R:=by
 unfold g244 F244
 refine imp (opN_of (show _=some ((blkV (lstE TP.E) 4 ([a,b]:List (List TP))),[(4,some ⟨encs (lstE TP.E) ([a,b]:List (List TP)),295⟩)]) from rfl)) ?_
 refine imp (opP_of (show _=some ((intA (([a,b]:List (List TP)).length:Int)),[]) from len_blk)) ?_
 refine imp ex_i64_b ?_
 exact fun hg=>L244_0_ok n a b false (0) ([a,b]:List (List TP)) (([a,b]:List (List TP)).length:Int) R hR n _ hg (weak_mem [] rfl rfl rfl (okW_cons (ent_lst (E:=TP.E) _ false) (okW_cons (ent_lst (E:=TP.E) _ false) (oR (oR (okW_cons (ent_blk_frz (E:=(lstE TP.E)) (ty:=295) (l':=([a,b]:List (List TP))) rfl (by first|rfl|(simp (disch:=first|decide|assumption) only [lk])) rfl) (oR (oR okW_nil))))))) okB_nil')
theorem sg244 {n:Nat} {a:List TP} {b:List TP} {t:ρ244} (h:g244 n a b=some t):Says pg KK.gl 244 [lstA TP.E a,lstA TP.E b] ((AV.tup [boolA t.1,intA t.2])):=
 says_of_own (by first|rfl|simp [cleans,clean,encs_clean,En.cln]) (by first|rfl|simp [cleans,clean,encs_clean,En.cln]) (F244_own (lstA TP.E a) (lstA TP.E b) _ (g244_ok n a b (Ans ((AV.tup [boolA t.1,intA t.2]))) (fun r e u m h=>by rw [e];exact h) h))
/- skyway/volume.Overlap -/
theorem B176_0_ok (n:Nat) (i:Bool) (c5:Int) (j:List TVolume) (k:Int) (f:List TP) (a c:Int) (g:List TP) (d e l:Int) {t:(Int)⊕ρ176} (R:AV→Mem→Prop) (N0:St→Prop) (hR:∀r:ρ176,t=(.inr r)→∀u m,Ans ((AV.tup [boolA r.1,intA r.2])) u m→R u m) (hN0:∀y:Int,t=(.inl y)→∀s':St,Weak KK 52 0 s' (h176_0 i c5 (lstA TVolume.E j) k y [(0,some ⟨[lstA TP.E f,intA a,intA c],297⟩),(1,some ⟨[lstA TP.E g,intA d,intA e],297⟩)])→N0 s'):S176_0 n i c5 j k f a c g d e l=some t→B176_0 i c5 (lstA TVolume.E j) k l [(0,some ⟨[lstA TP.E f,intA a,intA c],297⟩),(1,some ⟨[lstA TP.E g,intA d,intA e],297⟩)] R N0:=by
 unfold S176_0 B176_0
 refine cond_b (fun _=> ?_) (fun _=> ?_)
 ·refine bind_b fun h o=> ?_
  refine iq (AV.ept [lstA TP.E h.Area,intA h.Low,intA h.High] 0) (idx_lst (E:=TVolume.E) rfl o) ?_
  refine iq (AV.agg [lstA TP.E h.Area,intA h.Low,intA h.High]) rfl ?_
  refine imp exA3_b ?_
  iterate 2 refine imp ex_i64_b ?_
  refine imp (chk_of rfl) ?_
  refine bind_b fun s p=> ?_
  refine imp (callQ_says (sg173 p)) ?_
  refine imp ex_i64_b ?_
  refine cond_b (fun _=> ?_) (fun _=> ?_)
  ·exact fun hg=>retN rfl (hR _ (Option.some.inj hg).symm) (fS (fS fzL_nil))
  ·exact fun hg=>hN0 _ (Option.some.inj hg).symm _ (weak_mem [(0,0),(1,1)] rfl rfl rfl (oR (oR (oR (oR (okW_cons (ent_lst (E:=TVolume.E) _ false) (oR (oR okW_nil))))))) (okB_cons (okB_cells (cs:=[lstA TP.E f,intA a,intA c]) (ty:=297) (by simp [clean,cleans,encs_clean]) (show mget _ 0=_ from (by first|rfl|(simp (disch:=first|decide|assumption) only [lk])))) (okB_cons (okB_cells (cs:=[lstA TP.E g,intA d,intA e]) (ty:=297) (by simp [clean,cleans,encs_clean]) (show mget _ 1=_ from (by first|rfl|(simp (disch:=first|decide|assumption) only [lk])))) okB_nil')))
 ·refine iq (lstA TP.E f) (ldS_ptr (b:=⟨[lstA TP.E f,intA a,intA c],297⟩) (by first|rfl|(simp (disch:=first|decide|assumption) only [lk])) rfl) ?_
  refine iq (lstA TP.E g) (ldS_ptr (b:=⟨[lstA TP.E g,intA d,intA e],297⟩) (by first|rfl|(simp (disch:=first|decide|assumption) only [lk])) rfl) ?_
  refine bind_b fun v q=> ?_
  refine imp (callQ_says (sg244 q)) ?_
  refine imp exT2_b ?_
  refine imp exB_b ?_
  refine imp ex_i64_b ?_
  refine cond_b (fun _=> ?_) (fun _=> ?_)
  ·refine cond_b (fun _=> ?_) (fun _=> ?_)
   ·refine iq (intA a) (ldS_ptr (b:=⟨[lstA TP.E f,intA a,intA c],297⟩) (by first|rfl|(simp (disch:=first|decide|assumption) only [lk])) rfl) ?_
    refine imp ex_i64_b ?_
    refine iq (intA d) (ldS_ptr (b:=⟨[lstA TP.E g,intA d,intA e],297⟩) (by first|rfl|(simp (disch:=first|decide|assumption) only [lk])) rfl) ?_
    refine imp ex_i64_b ?_
    refine iq (intA (if d>a then d else a)) krE ?_
    refine imp ex_i64_b ?_
    refine iq (intA c) (ldS_ptr (b:=⟨[lstA TP.E f,intA a,intA c],297⟩) (by first|rfl|(simp (disch:=first|decide|assumption) only [lk])) rfl) ?_
    refine imp ex_i64_b ?_
    refine iq (intA e) (ldS_ptr (b:=⟨[lstA TP.E g,intA d,intA e],297⟩) (by first|rfl|(simp (disch:=first|decide|assumption) only [lk])) rfl) ?_
    refine imp ex_i64_b ?_
    refine iq (intA (if e<c then e else c)) krE ?_
    refine imp ex_i64_b ?_
    exact fun hg=>retN rfl (hR _ (Option.some.inj hg).symm) (fS (fS fzL_nil))
   ·exact fun hg=>retN rfl (hR _ (Option.some.inj hg).symm) (fS (fS fzL_nil))
  ·exact fun hg=>retN rfl (hR _ (Option.some.inj hg).symm) (fS (fS fzL_nil))
theorem L176_0_ok (n:Nat) (a:Bool) (c5:Int) (b:List TVolume) (c:Int) (d:List TP) (f g:Int) (i:List TP) (j l:Int) {t:ρ176} (R:AV→Mem→Prop) (hR:∀r:ρ176,t=r→∀u m,Ans ((AV.tup [boolA r.1,intA r.2])) u m→R u m) (k:Nat) (x:Int) (hx:iterO (fun y:Int=>S176_0 n a c5 b c d f g i j l y) k x=some t) {s:St} (hw:Weak KK 52 0 s (h176_0 a c5 (lstA TVolume.E b) c x [(0,some ⟨[lstA TP.E d,intA f,intA g],297⟩),(1,some ⟨[lstA TP.E i,intA j,intA l],297⟩)])):Tri pg KK 52 0 (.loop c176_0) s (q176_0 R):=
 L176_0 R (σ:=Nat×(Int)) (fun z=>iterO (fun y:Int=>S176_0 n a c5 b c d f g i j l y) z.1 z.2=some t) (fun z=>a) (fun z=>c5) (fun z=>(lstA TVolume.E b)) (fun z=>c) (fun z=>z.2) (fun z=>[(0,some ⟨[lstA TP.E d,intA f,intA g],297⟩),(1,some ⟨[lstA TP.E i,intA j,intA l],297⟩)]) (fun z=>z.1) (by
  rintro ⟨k,y⟩ h
  cases k with
  |zero=>exact (iterO_zero h).elim
  |succ k=>
   obtain ⟨u,o,p,q⟩:=iterO_elim h
   exact B176_0_ok n a c5 b c d f g i j l y R _ (fun r e=>hR r (q _ e).symm) (fun y' e s' hw=>⟨(k,y'),p _ e,Nat.lt_succ_self k,hw⟩) o) (k,x) hx hw
theorem g176_ok (n:Nat) (a b:TVolume) {t:ρ176} (R:AV→Mem→Prop) (hR:∀r:ρ176,t=r→∀u m,Ans ((AV.tup [boolA r.1,intA r.2])) u m→R u m):g176 n a b=some t→F176 (lstA TP.E a.Area) a.Low a.High (lstA TP.E b.Area) b.Low b.High R:=by
 unfold g176 F176
 refine imp (chk_of rfl) ?_
 refine imp (chk_of rfl) ?_
 refine imp (opN_of (show _=some ((blkV TVolume.E 6 ([a,b]:List TVolume)),[(6,some ⟨encs TVolume.E ([a,b]:List TVolume),297⟩)]) from rfl)) ?_
 refine imp (opP_of (show _=some ((intA (([a,b]:List TVolume).length:Int)),[]) from len_blk)) ?_
 refine imp ex_i64_b ?_
 exact fun hg=>L176_0_ok n false (0) ([a,b]:List TVolume) (([a,b]:List TVolume).length:Int) a.Area a.Low a.High b.Area b.Low b.High R hR n _ hg (weak_mem [(0,0),(1,1)] rfl rfl rfl (oR (oR (oR (oR (okW_cons (ent_blk_frz (E:=TVolume.E) (ty:=297) (l':=([a,b]:List TVolume)) rfl (by first|rfl|(simp (disch:=first|decide|assumption) only [lk])) rfl) (oR (oR okW_nil))))))) (okB_cons (okB_cells (cs:=[lstA TP.E a.Area,intA a.Low,intA a.High]) (ty:=297) (by simp [clean,cleans,encs_clean]) (show mget _ 0=_ from (by first|rfl|(simp (disch:=first|decide|assumption) only [lk])))) (okB_cons (okB_cells (cs:=[lstA TP.E b.Area,intA b.Low,intA b.High]) (ty:=297) (by simp [clean,cleans,encs_clean]) (show mget _ 1=_ from (by first|rfl|(simp (disch:=first|decide|assumption) only [lk])))) okB_nil')))
theorem sg176 {n:Nat} {a:TVolume} {b:TVolume} {t:ρ176} (h:g176 n a b=some t):Says pg KK.gl 176 [AV.agg [lstA TP.E a.Area,intA a.Low,intA a.High],AV.agg [lstA TP.E b.Area,intA b.Low,intA b.High]] ((AV.tup [boolA t.1,intA t.2])):=
 says_of_own (by first|rfl|simp [cleans,clean,encs_clean,En.cln]) (by first|rfl|simp [cleans,clean,encs_clean,En.cln]) (F176_own (lstA TP.E a.Area) a.Low a.High (lstA TP.E b.Area) b.Low b.High _ (g176_ok n a b (Ans ((AV.tup [boolA t.1,intA t.2]))) (fun r e u m h=>by rw [e];exact h) h))
/- skyway/sector.Check -/
theorem B110_0_0_ok (n:Nat) (b:List TSector) (g d h:Int) (c41:List TVolume) (c42:Int) (f:ByteArray) (i:Int) (a:List TVolume) {t:(Int×List TVolume)⊕((Int×List TVolume)⊕ρ110)} (R:AV→Mem→Prop) (N0 N1:St→Prop) (hR:∀r:ρ110,t=(.inr (.inr r))→∀u m,Ans ((intA r)) u m→R u m) (hN0:∀y:Int×List TVolume,t=(.inr (.inl y))→∀s':St,Weak KK 87 0 s' (h110_0 (lstA TSector.E b) g (ownV TVolume.E 90000 y.2) (lstA TSector.E b) h y.1 [(90000,ownB TVolume.E 297 y.2)])→N0 s') (hN1:∀y:Int×List TVolume,t=(.inl y)→∀s':St,Weak KK 87 0 s' (h110_0_0 (lstA TSector.E b) g (ownV TVolume.E 90000 y.2) d (lstA TSector.E b) h d (lstA TVolume.E c41) c42 y.1 f (lstA TVolume.E c41) [(90000,ownB TVolume.E 297 y.2)])→N1 s'):S110_0_0 n b g d h c41 c42 f i a=some t→B110_0_0 (lstA TSector.E b) g (ownV TVolume.E 90000 a) d (lstA TSector.E b) h d (lstA TVolume.E c41) c42 i f (lstA TVolume.E c41) [(90000,ownB TVolume.E 297 a)] R N0 N1:=by
 unfold S110_0_0 B110_0_0
 refine cond_b (fun _=> ?_) (fun _=> ?_)
 ·refine bind_b fun c j=> ?_
  refine iq (AV.ept [lstA TP.E c.Area,intA c.Low,intA c.High] 0) (idx_lst (E:=TVolume.E) rfl j) ?_
  refine iq (AV.agg [lstA TP.E c.Area,intA c.Low,intA c.High]) rfl ?_
  refine imp exA3_b ?_
  iterate 2 refine imp ex_i64_b ?_
  refine imp (chk_of rfl) ?_
  refine bind_b fun v k=> ?_
  refine imp (callQ_says (sg173 k)) ?_
  refine imp ex_i64_b ?_
  refine cond_b (fun _=> ?_) (fun _=> ?_)
  ·exact rt1 hR rfl rfl
  ·exact fun hg=>hN1 _ (Option.some.inj hg).symm _ (weak_mem [(90000,90000),(100004,100004)] rfl rfl rfl (okW_cons (ent_lst (E:=TSector.E) _ false) (oR (okW_cons (ent_own (E:=TVolume.E) (id:=90000) (l':=a) rfl rfl) (oR (oR (okW_cons (ent_lst (E:=TSector.E) _ false) (oR (oR (okW_cons (ent_lst (E:=TVolume.E) _ false) (oR (oR okW_nil))))))))))) (okB_cons (okB_cells (cs:=[strA f,lstA TVolume.E c41]) (ty:=293) (by simp [clean,cleans,encs_clean]) (show mget _ 100004=_ from (by first|rfl|(simp (disch:=first|decide|assumption) only [lk])))) (okB_cons (okB_own (E:=TVolume.E) (ty:=297) (l':=a) rfl (show mget _ 90000=_ from (by first|rfl|(simp (disch:=first|decide|assumption) only [lk])))) okB_nil')))
 ·refine bind_b fun l o=> ?_
  refine iq (lstA TSector.E l) (slc_hi (E:=TSector.E) (e:=293) krE krE rfl o) ?_
  refine bind_b fun w p=> ?_
  refine imp (callQ_pure (pure_snapN (snL_cons (sn_lst (E:=TSector.E) _ _ false) (snL_cons (sn_fn _ _ (snL_cons (sn_ptr _ (ty:=293) (us:=[strA f,lstA TVolume.E c41]) (by first|rfl|(simp (disch:=first|decide|assumption) only [lk])) (snL_cons (sn_sc _ _) (snL_cons (sn_lst (E:=TVolume.E) _ _ false) snL_nil))) snL_nil)) snL_nil)) (sg174 p) rfl)) ?_
  refine imp exB_b ?_
  refine cond_b (fun _=> ?_) (fun _=> ?_)
  ·exact rt1 hR rfl rfl
  ·refine bind_b fun x q=> ?_
   have neh126:=neO_some q
   refine bind_b fun z s=> ?_
   refine imp (opN_of (show _=some ((ownV TVolume.E 200072 (a++c41)),(appW TVolume.E 200072 90000 297 a c41)) from (app_own (E:=TVolume.E) (l':=a) (xs:=c41) rfl rfl (cellsOf_lst (E:=TVolume.E) rfl c41 false) asE rfl (fun hne=>Eq.trans (by first|rfl|(simp (disch:=first|decide|assumption) only [lk])) (ownB_ne hne)) s))) ?_
   exact fun hg=>hN0 _ (Option.some.inj hg).symm _ (weak_mem [(90000,200072)] rfl rfl rfl (okW_cons (ent_lst (E:=TSector.E) _ false) (oR (okW_cons (ent_own (E:=TVolume.E) (id:=200072) (l':=(a++c41)) rfl rfl) (okW_cons (ent_lst (E:=TSector.E) _ false) (oR (oR okW_nil)))))) (okB_cons (okB_own (E:=TVolume.E) (ty:=297) (l':=(a++c41)) rfl (show mget _ 200072=_ from (by first|rfl|(simp (disch:=first|decide|assumption) only [lk])))) okB_nil'))
theorem L110_0_0_ok (n:Nat) (a:List TSector) (c b d:Int) (c41:List TVolume) (c42:Int) (f:ByteArray) {t:((Int×List TVolume)⊕ρ110)} (R:AV→Mem→Prop) (N0:St→Prop) (hR:∀r:ρ110,t=(.inr r)→∀u m,Ans ((intA r)) u m→R u m) (hN0:∀y:Int×List TVolume,t=(.inl y)→∀s':St,Weak KK 87 0 s' (h110_0 (lstA TSector.E a) c (ownV TVolume.E 90000 y.2) (lstA TSector.E a) d y.1 [(90000,ownB TVolume.E 297 y.2)])→N0 s') (k:Nat) (x:Int×List TVolume) (hx:iterO (fun y:Int×List TVolume=>S110_0_0 n a c b d c41 c42 f y.1 y.2) k x=some t) {s:St} (hw:Weak KK 87 0 s (h110_0_0 (lstA TSector.E a) c (ownV TVolume.E 90000 x.2) b (lstA TSector.E a) d b (lstA TVolume.E c41) c42 x.1 f (lstA TVolume.E c41) [(90000,ownB TVolume.E 297 x.2)])):Tri pg KK 87 0 (.loop c110_0_0) s (q110_0_0 R N0):=
 L110_0_0 R N0 (σ:=Nat×(Int×List TVolume)) (fun z=>iterO (fun y:Int×List TVolume=>S110_0_0 n a c b d c41 c42 f y.1 y.2) z.1 z.2=some t) (fun z=>(lstA TSector.E a)) (fun z=>c) (fun z=>(ownV TVolume.E 90000 z.2.2)) (fun z=>b) (fun z=>(lstA TSector.E a)) (fun z=>d) (fun z=>b) (fun z=>(lstA TVolume.E c41)) (fun z=>c42) (fun z=>z.2.1) (fun z=>f) (fun z=>(lstA TVolume.E c41)) (fun z=>[(90000,ownB TVolume.E 297 z.2.2)]) (fun z=>z.1) (by
  rintro ⟨k,y⟩ h
  cases k with
  |zero=>exact (iterO_zero h).elim
  |succ k=>
   obtain ⟨u,i,j,g⟩:=iterO_elim h
   exact B110_0_0_ok n a c b d c41 c42 f y.1 y.2 R N0 _ (fun r e=>hR r (g _ e).symm) (fun y' e=>hN0 y' (g _ e).symm) (fun y' e s' hw=>⟨(k,y'),j _ e,Nat.lt_succ_self k,hw⟩) i) (k,x) hx hw
theorem B110_1_0_ok (n:Nat) (c:Int) (a:List TVolume) (d h:Int) (i:List TVolume) (j:Int) (e:List TP) (f g k:Int) {t:(Int)⊕((Int)⊕ρ110)} (R:AV→Mem→Prop) (N0 N1:St→Prop) (hR:∀r:ρ110,t=(.inr (.inr r))→∀u m,Ans ((intA r)) u m→R u m) (hN0:∀y:Int,t=(.inr (.inl y))→∀s':St,Weak KK 87 0 s' (h110_1 c (lstA TVolume.E a) (lstA TVolume.E a) d y [])→N0 s') (hN1:∀y:Int,t=(.inl y)→∀s':St,Weak KK 87 0 s' (h110_1_0 c (lstA TVolume.E a) (lstA TVolume.E a) d h (lstA TVolume.E i) j y (lstA TP.E e) f g [])→N1 s'):S110_1_0 n c a d h i j e f g k=some t→B110_1_0 c (lstA TVolume.E a) (lstA TVolume.E a) d h (lstA TVolume.E i) j k (lstA TP.E e) f g [] R N0 N1:=by
 unfold S110_1_0 B110_1_0
 refine cond_b (fun _=> ?_) (fun _=> ?_)
 ·refine bind_b fun b l=> ?_
  refine iq (AV.ept [lstA TP.E b.Area,intA b.Low,intA b.High] 0) (idx_lst (E:=TVolume.E) rfl l) ?_
  refine iq (AV.agg [lstA TP.E b.Area,intA b.Low,intA b.High]) rfl ?_
  refine imp exA3_b ?_
  iterate 2 refine imp ex_i64_b ?_
  refine imp (chk_of rfl) ?_
  refine bind_b fun p o=> ?_
  refine imp (callQ_says (sg176 o)) ?_
  refine imp exT2_b ?_
  refine imp exB_b ?_
  refine imp ex_i64_b ?_
  refine cond_b (fun _=> ?_) (fun _=> ?_)
  ·exact rt1 hR rfl rfl
  ·exact fun hg=>hN1 _ (Option.some.inj hg).symm _ (weak_mem [(200004,200004)] rfl rfl rfl (oR (okW_cons (ent_lst (E:=TVolume.E) _ false) (oR (okW_cons (ent_lst (E:=TVolume.E) _ false) (oR (oR (okW_cons (ent_lst (E:=TVolume.E) _ false) (oR (oR okW_nil))))))))) (okB_cons (okB_cells (cs:=[lstA TP.E e,intA f,intA g]) (ty:=297) (by simp [clean,cleans,encs_clean]) (show mget _ 200004=_ from (by first|rfl|(simp (disch:=first|decide|assumption) only [lk])))) okB_nil'))
 ·exact fun hg=>hN0 _ (Option.some.inj hg).symm _ (weak_mem [] rfl rfl rfl (oR (okW_cons (ent_lst (E:=TVolume.E) _ false) (okW_cons (ent_lst (E:=TVolume.E) _ false) (oR (oR okW_nil))))) okB_nil')
theorem L110_1_0_ok (n:Nat) (b:Int) (a:List TVolume) (c d:Int) (f:List TVolume) (g:Int) (i:List TP) (j l:Int) {t:((Int)⊕ρ110)} (R:AV→Mem→Prop) (N0:St→Prop) (hR:∀r:ρ110,t=(.inr r)→∀u m,Ans ((intA r)) u m→R u m) (hN0:∀y:Int,t=(.inl y)→∀s':St,Weak KK 87 0 s' (h110_1 b (lstA TVolume.E a) (lstA TVolume.E a) c y [])→N0 s') (k:Nat) (x:Int) (hx:iterO (fun y:Int=>S110_1_0 n b a c d f g i j l y) k x=some t) {s:St} (hw:Weak KK 87 0 s (h110_1_0 b (lstA TVolume.E a) (lstA TVolume.E a) c d (lstA TVolume.E f) g x (lstA TP.E i) j l [])):Tri pg KK 87 0 (.loop c110_1_0) s (q110_1_0 R N0):=
 L110_1_0 R N0 (σ:=Nat×(Int)) (fun z=>iterO (fun y:Int=>S110_1_0 n b a c d f g i j l y) z.1 z.2=some t) (fun z=>b) (fun z=>(lstA TVolume.E a)) (fun z=>(lstA TVolume.E a)) (fun z=>c) (fun z=>d) (fun z=>(lstA TVolume.E f)) (fun z=>g) (fun z=>z.2) (fun z=>(lstA TP.E i)) (fun z=>j) (fun z=>l) (fun z=>[]) (fun z=>z.1) (by
  rintro ⟨k,y⟩ h
  cases k with
  |zero=>exact (iterO_zero h).elim
  |succ k=>
   obtain ⟨u,p,q,o⟩:=iterO_elim h
   exact B110_1_0_ok n b a c d f g i j l y R N0 _ (fun r e=>hR r (o _ e).symm) (fun y' e=>hN0 y' (o _ e).symm) (fun y' e s' hw=>⟨(k,y'),q _ e,Nat.lt_succ_self k,hw⟩) p) (k,x) hx hw
theorem B110_1_ok (n:Nat) (c:Int) (b:List TVolume) (d g:Int) {t:(Int)⊕ρ110} (R:AV→Mem→Prop) (N0:St→Prop) (hR:∀r:ρ110,t=(.inr r)→∀u m,Ans ((intA r)) u m→R u m) (hN0:∀y:Int,t=(.inl y)→∀s':St,Weak KK 87 0 s' (h110_1 c (lstA TVolume.E b) (lstA TVolume.E b) d y [])→N0 s'):S110_1 n c b d g=some t→B110_1 c (lstA TVolume.E b) (lstA TVolume.E b) d g [] R N0:=by
 unfold S110_1 B110_1
 refine cond_b (fun _=> ?_) (fun _=> ?_)
 ·refine bind_b fun a h=> ?_
  refine iq (AV.ept [lstA TP.E a.Area,intA a.Low,intA a.High] 0) (idx_lst (E:=TVolume.E) rfl h) ?_
  refine iq (AV.agg [lstA TP.E a.Area,intA a.Low,intA a.High]) rfl ?_
  refine imp exA3_b ?_
  iterate 2 refine imp ex_i64_b ?_
  refine imp (chk_of rfl) ?_
  refine bind_b fun f i=> ?_
  refine iq (lstA TVolume.E f) (slc_hi (E:=TVolume.E) (e:=297) krE krE rfl i) ?_
  refine iq (intA (f.length:Int)) rfl ?_
  refine imp ex_i64_b ?_
  exact fun hg=>L110_1_0_ok n c b d g f (f.length:Int) a.Area a.Low a.High R N0 hR hN0 n _ hg (weak_mem [(200004,200004)] rfl rfl rfl (oR (okW_cons (ent_lst (E:=TVolume.E) _ false) (oR (okW_cons (ent_lst (E:=TVolume.E) _ false) (oR (oR (okW_cons (ent_lst (E:=TVolume.E) _ false) (oR (oR okW_nil))))))))) (okB_cons (okB_cells (cs:=[lstA TP.E a.Area,intA a.Low,intA a.High]) (ty:=297) (by simp [clean,cleans,encs_clean]) (show mget _ 200004=_ from (by first|rfl|(simp (disch:=first|decide|assumption) only [lk])))) okB_nil'))
 ·exact rt1 hR rfl rfl
theorem L110_1_ok (n:Nat) (b:Int) (a:List TVolume) (c:Int) {t:ρ110} (R:AV→Mem→Prop) (hR:∀r:ρ110,t=r→∀u m,Ans ((intA r)) u m→R u m) (k:Nat) (x:Int) (hx:iterO (fun y:Int=>S110_1 n b a c y) k x=some t) {s:St} (hw:Weak KK 87 0 s (h110_1 b (lstA TVolume.E a) (lstA TVolume.E a) c x [])):Tri pg KK 87 0 (.loop c110_1) s (q110_1 R):=
 L110_1 R (σ:=Nat×(Int)) (fun z=>iterO (fun y:Int=>S110_1 n b a c y) z.1 z.2=some t) (fun z=>b) (fun z=>(lstA TVolume.E a)) (fun z=>(lstA TVolume.E a)) (fun z=>c) (fun z=>z.2) (fun z=>[]) (fun z=>z.1) (by
  rintro ⟨k,y⟩ h
  cases k with
  |zero=>exact (iterO_zero h).elim
  |succ k=>
   obtain ⟨u,d,f,g⟩:=iterO_elim h
   exact B110_1_ok n b a c y R _ (fun r e=>hR r (g _ e).symm) (fun y' e s' hw=>⟨(k,y'),f _ e,Nat.lt_succ_self k,hw⟩) d) (k,x) hx hw
theorem B110_0_ok (n:Nat) (c:List TSector) (d f g:Int) (b:List TVolume) {t:(Int×List TVolume)⊕ρ110} (R:AV→Mem→Prop) (N0:St→Prop) (hR:∀r:ρ110,t=(.inr r)→∀u m,Ans ((intA r)) u m→R u m) (hN0:∀y:Int×List TVolume,t=(.inl y)→∀s':St,Weak KK 87 0 s' (h110_0 (lstA TSector.E c) d (ownV TVolume.E 90000 y.2) (lstA TSector.E c) f y.1 [(90000,ownB TVolume.E 297 y.2)])→N0 s'):S110_0 n c d f g b=some t→B110_0 (lstA TSector.E c) d (ownV TVolume.E 90000 b) (lstA TSector.E c) f g [(90000,ownB TVolume.E 297 b)] R N0:=by
 unfold S110_0 B110_0
 refine cond_b (fun _=> ?_) (fun _=> ?_)
 ·refine bind_b fun a h=> ?_
  refine iq (AV.ept [strA a.Name,lstA TVolume.E a.Room] 0) (idx_lst (E:=TSector.E) rfl h) ?_
  refine iq (AV.agg [strA a.Name,lstA TVolume.E a.Room]) rfl ?_
  refine imp exA2_b ?_
  refine imp exStr_b ?_
  refine imp (chk_of rfl) ?_
  refine bind_b fun j i=> ?_
  refine imp (callQ_says (sg172 i)) ?_
  refine imp exB_b ?_
  refine cond_b (fun _=> ?_) (fun _=> ?_)
  ·exact rt1 hR rfl rfl
  ·refine iq (intA (a.Room.length:Int)) rfl ?_
   refine imp ex_i64_b ?_
   refine cond_b (fun _=> ?_) (fun _=> ?_)
   ·exact rt1 hR rfl rfl
   ·refine iq (intA (a.Room.length:Int)) rfl ?_
    refine imp ex_i64_b ?_
    refine cond_b (fun _=> ?_) (fun _=> ?_)
    ·exact rt1 hR rfl rfl
    ·refine iq (intA (a.Room.length:Int)) rfl ?_
     refine imp ex_i64_b ?_
     exact fun hg=>L110_0_0_ok n c d g f a.Room (a.Room.length:Int) a.Name R N0 hR hN0 n _ hg (weak_mem [(90000,90000),(100004,100004)] rfl rfl rfl (okW_cons (ent_lst (E:=TSector.E) _ false) (oR (okW_cons (ent_own (E:=TVolume.E) (id:=90000) (l':=b) rfl rfl) (oR (oR (okW_cons (ent_lst (E:=TSector.E) _ false) (oR (oR (okW_cons (ent_lst (E:=TVolume.E) _ false) (oR (oR okW_nil))))))))))) (okB_cons (okB_cells (cs:=[strA a.Name,lstA TVolume.E a.Room]) (ty:=293) (by simp [clean,cleans,encs_clean]) (show mget _ 100004=_ from (by first|rfl|(simp (disch:=first|decide|assumption) only [lk])))) (okB_cons (okB_own (E:=TVolume.E) (ty:=297) (l':=b) rfl (show mget _ 90000=_ from (by first|rfl|(simp (disch:=first|decide|assumption) only [lk])))) okB_nil')))
 ·refine imp (opP_of (show _=some ((intA (b.length:Int)),[]) from len_own)) ?_
  refine imp ex_i64_b ?_
  refine mapInr_b fun k e0=> ?_
  exact fun hg=>L110_1_ok n d b (b.length:Int) R (fun r e=>hR r (e0.trans (congrArg Sum.inr e))) n _ hg (weak_mem [] rfl rfl rfl (oR (okW_cons (ent_own_frz (E:=TVolume.E) (ty:=297) (l':=b) rfl (by first|rfl|(simp (disch:=first|decide|assumption) only [lk])) rfl) (okW_cons (ent_own_frz (E:=TVolume.E) (ty:=297) (l':=b) rfl (by first|rfl|(simp (disch:=first|decide|assumption) only [lk])) rfl) (oR (oR okW_nil))))) okB_nil')
theorem L110_0_ok (n:Nat) (a:List TSector) (b c:Int) {t:ρ110} (R:AV→Mem→Prop) (hR:∀r:ρ110,t=r→∀u m,Ans ((intA r)) u m→R u m) (k:Nat) (x:Int×List TVolume) (hx:iterO (fun y:Int×List TVolume=>S110_0 n a b c y.1 y.2) k x=some t) {s:St} (hw:Weak KK 87 0 s (h110_0 (lstA TSector.E a) b (ownV TVolume.E 90000 x.2) (lstA TSector.E a) c x.1 [(90000,ownB TVolume.E 297 x.2)])):Tri pg KK 87 0 (.loop c110_0) s (q110_0 R):=
 L110_0 R (σ:=Nat×(Int×List TVolume)) (fun z=>iterO (fun y:Int×List TVolume=>S110_0 n a b c y.1 y.2) z.1 z.2=some t) (fun z=>(lstA TSector.E a)) (fun z=>b) (fun z=>(ownV TVolume.E 90000 z.2.2)) (fun z=>(lstA TSector.E a)) (fun z=>c) (fun z=>z.2.1) (fun z=>[(90000,ownB TVolume.E 297 z.2.2)]) (fun z=>z.1) (by
  rintro ⟨k,y⟩ h
  cases k with
  |zero=>exact (iterO_zero h).elim
  |succ k=>
   obtain ⟨u,d,f,g⟩:=iterO_elim h
   exact B110_0_ok n a b c y.1 y.2 R _ (fun r e=>hR r (g _ e).symm) (fun y' e s' hw=>⟨(k,y'),f _ e,Nat.lt_succ_self k,hw⟩) d) (k,x) hx hw
theorem g110_ok (n:Nat) (a:List TSector) {t:ρ110} (R:AV→Mem→Prop) (hR:∀r:ρ110,t=r→∀u m,Ans ((intA r)) u m→R u m):g110 n a=some t→F110 (lstA TSector.E a) R:=by
 unfold g110 F110
 refine iq (intA (a.length:Int)) rfl ?_
 refine imp ex_i64_b ?_
 refine cond_b (fun _=> ?_) (fun _=> ?_)
 ·exact rt1 hR rfl rfl
 ·refine iq (intA (a.length:Int)) rfl ?_
  refine imp ex_i64_b ?_
  exact fun hg=>L110_0_ok n a (0) (a.length:Int) R hR n _ hg (weak_mem [(90000,89500)] rfl rfl rfl (okW_cons (ent_lst (E:=TSector.E) _ false) (oR (okW_cons ent_nils_own (okW_cons (ent_lst (E:=TSector.E) _ false) (oR (oR okW_nil)))))) (okB_cons okB_nil okB_nil'))
theorem sg110 {n:Nat} {a:List TSector} {t:ρ110} (h:g110 n a=some t):Says pg KK.gl 110 [lstA TSector.E a] ((intA t)):=
 says_of_own (by first|rfl|simp [cleans,clean,encs_clean,En.cln]) (by first|rfl|simp [cleans,clean,encs_clean,En.cln]) (F110_own (lstA TSector.E a) _ (g110_ok n a (Ans ((intA t))) (fun r e u m h=>by rw [e];exact h) h))
/- skyway/skywaytop.shownSmall$1 -/
theorem g35_ok (n:Nat) (c:List TTubeNode) (d:Int) {t:ρ35} (R:AV→Mem→Prop) (hR:∀r:ρ35,t=r→∀u m,Ans ((boolA r)) u m→R u m):g35 n c d=some t→F35 (lstA TTubeNode.E c) (AV.ept [intA d] 0) R:=by
 unfold g35 F35
 refine bind_b fun h e=> ?_
 refine imp (callQ_says (sg36 e)) ?_
 refine imp ex_i64_b ?_
 refine cond_b (fun _=> ?_) (fun _=> ?_)
 ·exact rt1 hR rfl rfl
 ·refine iq (intA (c.length:Int)) rfl ?_
  refine imp ex_i64_b ?_
  refine bind_b fun a f=> ?_
  refine iq (AV.ept [intA a.Node_Time,intA a.Node_At_X,intA a.Node_At_Y,intA a.Node_Height,intA a.Radius,intA a.Band] 0) (idx_lst (E:=TTubeNode.E) rfl f) ?_
  refine iq (AV.ept [intA a.Node_Time,intA a.Node_At_X,intA a.Node_At_Y,intA a.Node_Height,intA a.Radius,intA a.Band] 0) rfl ?_
  refine iq (AV.ept [intA a.Node_Time,intA a.Node_At_X,intA a.Node_At_Y,intA a.Node_Height,intA a.Radius,intA a.Band] 0) rfl ?_
  refine iq (intA a.Node_Time) rfl ?_
  refine imp ex_i64_b ?_
  refine bind_b fun b g=> ?_
  refine iq (AV.ept [intA b.Node_Time,intA b.Node_At_X,intA b.Node_At_Y,intA b.Node_Height,intA b.Radius,intA b.Band] 0) (idx_lst (E:=TTubeNode.E) rfl g) ?_
  refine iq (AV.ept [intA b.Node_Time,intA b.Node_At_X,intA b.Node_At_Y,intA b.Node_Height,intA b.Radius,intA b.Band] 0) rfl ?_
  refine iq (AV.ept [intA b.Node_Time,intA b.Node_At_X,intA b.Node_At_Y,intA b.Node_Height,intA b.Radius,intA b.Band] 0) rfl ?_
  refine iq (intA b.Node_Time) rfl ?_
  refine imp ex_i64_b ?_
  refine iq (intA d) rfl ?_
  refine imp ex_i64_b ?_
  exact rt1 hR rfl rfl
theorem sg35 {n:Nat} {a:List TTubeNode} {b:Int} {t:ρ35} (h:g35 n a b=some t):Says pg KK.gl 35 [lstA TTubeNode.E a,AV.ept [intA b] 0] ((boolA t)):=
 says_of_own (by first|rfl|simp [cleans,clean,encs_clean,En.cln]) (by first|rfl|simp [cleans,clean,encs_clean,En.cln]) (F35_own (lstA TTubeNode.E a) (AV.ept [intA b] 0) _ (g35_ok n a b (Ans ((boolA t))) (fun r e u m h=>by rw [e];exact h) h))
/- slices.IndexFunc[[]skyway/api.Tube,skyway/api.Tube] -/
theorem B109_0_ok (n:Nat) (a:List (List TTubeNode)) (b c c7 d:Int) {t:(Int)⊕ρ109} (R:AV→Mem→Prop) (N0:St→Prop) (hR:∀r:ρ109,t=(.inr r)→∀u m,Ans ((intA r)) u m→R u m) (hN0:∀y:Int,t=(.inl y)→∀s':St,Weak KK 19 0 s' (h109_0 (lstA (lstE TTubeNode.E) a) (AV.fn 35 [AV.ept [intA b] 0]) c c7 y [])→N0 s'):S109_0 n a b c c7 d=some t→B109_0 (lstA (lstE TTubeNode.E) a) (AV.fn 35 [AV.ept [intA b] 0]) c c7 d [] R N0:=by
 unfold S109_0 B109_0
 refine cond_b (fun _=> ?_) (fun _=> ?_)
 ·refine bind_b fun e f=> ?_
  refine iq (AV.ept [lstA TTubeNode.E e] 0) (idx_lst (E:=(lstE TTubeNode.E)) rfl f) ?_
  refine iq (lstA TTubeNode.E e) rfl ?_
  refine bind_b fun h g=> ?_
  refine imp fnArgs_b ?_
  refine imp (cond_ff rfl) ?_
  refine imp (callW_says (sg35 g)) ?_
  refine imp exB_b ?_
  refine cond_b (fun _=> ?_) (fun _=> ?_)
  ·exact rt1 hR rfl rfl
  ·exact fun hg=>hN0 _ (Option.some.inj hg).symm _ (weak_mem [] rfl rfl rfl (okW_cons (ent_lst (E:=(lstE TTubeNode.E)) _ false) (okW_cons (ent_clean (leV_refl _) (by simp [clean,cleans,encs_clean])) (oR (oR (oR okW_nil))))) okB_nil')
 ·exact rt1 hR rfl rfl
theorem L109_0_ok (n:Nat) (a:List (List TTubeNode)) (b c c7:Int) {t:ρ109} (R:AV→Mem→Prop) (hR:∀r:ρ109,t=r→∀u m,Ans ((intA r)) u m→R u m) (k:Nat) (x:Int) (hx:iterO (fun y:Int=>S109_0 n a b c c7 y) k x=some t) {s:St} (hw:Weak KK 19 0 s (h109_0 (lstA (lstE TTubeNode.E) a) (AV.fn 35 [AV.ept [intA b] 0]) c c7 x [])):Tri pg KK 19 0 (.loop c109_0) s (q109_0 R):=
 L109_0 R (σ:=Nat×(Int)) (fun z=>iterO (fun y:Int=>S109_0 n a b c c7 y) z.1 z.2=some t) (fun z=>(lstA (lstE TTubeNode.E) a)) (fun z=>(AV.fn 35 [AV.ept [intA b] 0])) (fun z=>c) (fun z=>c7) (fun z=>z.2) (fun z=>[]) (fun z=>z.1) (by
  rintro ⟨k,y⟩ h
  cases k with
  |zero=>exact (iterO_zero h).elim
  |succ k=>
   obtain ⟨u,d,f,g⟩:=iterO_elim h
   exact B109_0_ok n a b c c7 y R _ (fun r e=>hR r (g _ e).symm) (fun y' e s' hw=>⟨(k,y'),f _ e,Nat.lt_succ_self k,hw⟩) d) (k,x) hx hw
theorem g109_ok (n:Nat) (a:List (List TTubeNode)) (b:Int) {t:ρ109} (R:AV→Mem→Prop) (hR:∀r:ρ109,t=r→∀u m,Ans ((intA r)) u m→R u m):g109 n a b=some t→F109 (lstA (lstE TTubeNode.E) a) (AV.fn 35 [AV.ept [intA b] 0]) R:=by
 unfold g109 F109
 refine iq (intA (a.length:Int)) rfl ?_
 refine imp ex_i64_b ?_
 exact fun hg=>L109_0_ok n a b (0) (a.length:Int) R hR n _ hg (weak_mem [] rfl rfl rfl (okW_cons (ent_lst (E:=(lstE TTubeNode.E)) _ false) (okW_cons (ent_clean (leV_refl _) (by simp [clean,cleans,encs_clean])) (oR (oR (oR okW_nil))))) okB_nil')
theorem sg109 {n:Nat} {a:List (List TTubeNode)} {b:Int} {t:ρ109} (h:g109 n a b=some t):Says pg KK.gl 109 [lstA (lstE TTubeNode.E) a,AV.fn 35 [AV.ept [intA b] 0]] ((intA t)):=
 says_of_own (by first|rfl|simp [cleans,clean,encs_clean,En.cln]) (by first|rfl|simp [cleans,clean,encs_clean,En.cln]) (F109_own (lstA (lstE TTubeNode.E) a) (AV.fn 35 [AV.ept [intA b] 0]) _ (g109_ok n a b (Ans ((intA t))) (fun r e u m h=>by rw [e];exact h) h))
/- slices.ContainsFunc[[]skyway/api.Tube,skyway/api.Tube] -/
theorem g34_ok (n:Nat) (a:List (List TTubeNode)) (b:Int) {t:ρ34} (R:AV→Mem→Prop) (hR:∀r:ρ34,t=r→∀u m,Ans ((boolA r)) u m→R u m):g34 n a b=some t→F34 (lstA (lstE TTubeNode.E) a) (AV.fn 35 [AV.ept [intA b] 0]) R:=by
 unfold g34 F34
 refine bind_b fun d c=> ?_
 refine imp (callQ_says (sg109 c)) ?_
 refine imp ex_i64_b ?_
 exact rt1 hR rfl rfl
theorem sg34 {n:Nat} {a:List (List TTubeNode)} {b:Int} {t:ρ34} (h:g34 n a b=some t):Says pg KK.gl 34 [lstA (lstE TTubeNode.E) a,AV.fn 35 [AV.ept [intA b] 0]] ((boolA t)):=
 says_of_own (by first|rfl|simp [cleans,clean,encs_clean,En.cln]) (by first|rfl|simp [cleans,clean,encs_clean,En.cln]) (F34_own (lstA (lstE TTubeNode.E) a) (AV.fn 35 [AV.ept [intA b] 0]) _ (g34_ok n a b (Ans ((boolA t))) (fun r e u m h=>by rw [e];exact h) h))
/- skyway/skywaytop.shownSmall -/
theorem g5_ok (n:Nat) (a:List (List TTubeNode)) (c b:Int) {t:ρ5} (R:AV→Mem→Prop) (hR:∀r:ρ5,t=r→∀u m,Ans ((boolA r)) u m→R u m):g5 n a c b=some t→F5 (lstA (lstE TTubeNode.E) a) c b R:=by
 unfold g5 F5
 refine iq (intA (a.length:Int)) rfl ?_
 refine imp ex_i64_b ?_
 refine cond_b (fun _=> ?_) (fun _=> ?_)
 ·refine bind_b fun e d=> ?_
  refine imp (callQ_pure (pure_snapN (snL_cons (sn_lst (E:=(lstE TTubeNode.E)) _ _ false) (snL_cons (sn_fn _ _ (snL_cons (sn_ptr _ (ty:=3) (us:=[intA b]) (by first|rfl|(simp (disch:=first|decide|assumption) only [lk])) (snL_cons (sn_sc _ _) snL_nil)) snL_nil)) snL_nil)) (sg34 d) rfl)) ?_
  refine imp exB_b ?_
  exact rt1 hR rfl rfl
 ·exact rt1 hR rfl rfl
theorem sg5 {n:Nat} {a:List (List TTubeNode)} {b:Int} {c:Int} {t:ρ5} (h:g5 n a b c=some t):Says pg KK.gl 5 [lstA (lstE TTubeNode.E) a,intA b,intA c] ((boolA t)):=
 says_of_own (by first|rfl|simp [cleans,clean,encs_clean,En.cln]) (by first|rfl|simp [cleans,clean,encs_clean,En.cln]) (F5_own (lstA (lstE TTubeNode.E) a) b c _ (g5_ok n a b c (Ans ((boolA t))) (fun r e u m h=>by rw [e];exact h) h))
/- skyway/load.check -/
theorem B37_0_ok (n:Nat) (a:Int) (b:List (List TTubeNode)) (c d:Int) {t:(Int)⊕ρ37} (R:AV→Mem→Prop) (N0:St→Prop) (hR:∀r:ρ37,t=(.inr r)→∀u m,Ans ((intA r)) u m→R u m) (hN0:∀y:Int,t=(.inl y)→∀s':St,Weak KK 29 0 s' (h37_0 a (lstA (lstE TTubeNode.E) b) c y [])→N0 s'):S37_0 n a b c d=some t→B37_0 a (lstA (lstE TTubeNode.E) b) c d [] R N0:=by
 unfold S37_0 B37_0
 refine cond_b (fun _=> ?_) (fun _=> ?_)
 ·refine bind_b fun e f=> ?_
  refine iq (AV.ept [lstA TTubeNode.E e] 0) (idx_lst (E:=(lstE TTubeNode.E)) rfl f) ?_
  refine iq (lstA TTubeNode.E e) rfl ?_
  refine bind_b fun h g=> ?_
  refine imp (callQ_says (sg36 g)) ?_
  refine imp ex_i64_b ?_
  refine cond_b (fun _=> ?_) (fun _=> ?_)
  ·exact rt1 hR rfl rfl
  ·exact fun hg=>hN0 _ (Option.some.inj hg).symm _ (weak_mem [] rfl rfl rfl (oR (okW_cons (ent_lst (E:=(lstE TTubeNode.E)) _ false) (oR (oR okW_nil)))) okB_nil')
 ·exact rt1 hR rfl rfl
theorem L37_0_ok (n:Nat) (a:Int) (b:List (List TTubeNode)) (c:Int) {t:ρ37} (R:AV→Mem→Prop) (hR:∀r:ρ37,t=r→∀u m,Ans ((intA r)) u m→R u m) (k:Nat) (x:Int) (hx:iterO (fun y:Int=>S37_0 n a b c y) k x=some t) {s:St} (hw:Weak KK 29 0 s (h37_0 a (lstA (lstE TTubeNode.E) b) c x [])):Tri pg KK 29 0 (.loop c37_0) s (q37_0 R):=
 L37_0 R (σ:=Nat×(Int)) (fun z=>iterO (fun y:Int=>S37_0 n a b c y) z.1 z.2=some t) (fun z=>a) (fun z=>(lstA (lstE TTubeNode.E) b)) (fun z=>c) (fun z=>z.2) (fun z=>[]) (fun z=>z.1) (by
  rintro ⟨k,y⟩ h
  cases k with
  |zero=>exact (iterO_zero h).elim
  |succ k=>
   obtain ⟨u,d,f,g⟩:=iterO_elim h
   exact B37_0_ok n a b c y R _ (fun r e=>hR r (g _ e).symm) (fun y' e s' hw=>⟨(k,y'),f _ e,Nat.lt_succ_self k,hw⟩) d) (k,x) hx hw
theorem g37_ok (n:Nat) (b:List TSector) (a:List (List TTubeNode)) {t:ρ37} (R:AV→Mem→Prop) (hR:∀r:ρ37,t=r→∀u m,Ans ((intA r)) u m→R u m):g37 n b a=some t→F37 (lstA TSector.E b) (lstA (lstE TTubeNode.E) a) R:=by
 unfold g37 F37
 refine bind_b fun d c=> ?_
 refine imp (callQ_says (sg110 c)) ?_
 refine imp ex_i64_b ?_
 refine cond_b (fun _=> ?_) (fun _=> ?_)
 ·exact rt1 hR rfl rfl
 ·refine iq (intA (a.length:Int)) rfl ?_
  refine imp ex_i64_b ?_
  refine cond_b (fun _=> ?_) (fun _=> ?_)
  ·exact rt1 hR rfl rfl
  ·refine iq (intA (a.length:Int)) rfl ?_
   refine imp ex_i64_b ?_
   exact fun hg=>L37_0_ok n (0) a (a.length:Int) R hR n _ hg (weak_mem [] rfl rfl rfl (oR (okW_cons (ent_lst (E:=(lstE TTubeNode.E)) _ false) (oR (oR okW_nil)))) okB_nil')
theorem sg37 {n:Nat} {a:List TSector} {b:List (List TTubeNode)} {t:ρ37} (h:g37 n a b=some t):Says pg KK.gl 37 [lstA TSector.E a,lstA (lstE TTubeNode.E) b] ((intA t)):=
 says_of_own (by first|rfl|simp [cleans,clean,encs_clean,En.cln]) (by first|rfl|simp [cleans,clean,encs_clean,En.cln]) (F37_own (lstA TSector.E a) (lstA (lstE TTubeNode.E) b) _ (g37_ok n a b (Ans ((intA t))) (fun r e u m h=>by rw [e];exact h) h))
end Go.Proofs.YtlenkbgeomojnaaGreatDoor
