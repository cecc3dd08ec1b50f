/- Plain functional programs out of the program's functions, with proofs that the functions compute them; printed by wip/Ext.lean.txt. -/
import Derived.Test.YtlenkbgeomojnaaGreatDoorX1E1
set_option linter.unusedVariables false
set_option linter.unusedSimpArgs false
set_option maxRecDepth 100000
set_option maxHeartbeats 4000000
namespace Go.Proofs.YtlenkbgeomojnaaGreatDoor
/- skyway/wake.Check -/
theorem B86_0_0_ok (n:Nat) (x a b c d f g h i j k o p q s v w ae z aa ab ad af:Int) {t:(Int)⊕((Int)⊕ρ86)} (R:AV→Mem→Prop) (N0 N1:St→Prop) (hR:∀r:ρ86,t=(.inr (.inr r))→∀u m,Ans ((intA r)) u m→R u m) (hN0:∀y:Int,t=(.inr (.inl y))→∀s':St,Weak KK 55 0 s' (h86_0 x a b c d f g h i j k o p q s v w y a b c d f g h i j k o p q s v w [])→N0 s') (hN1:∀y:Int,t=(.inl y)→∀s':St,Weak KK 55 0 s' (h86_0_0 x a b c d f g h i j k o p q s v w ae z aa ab ad y a b c d f g h i j k o p q s v w [])→N1 s'):S86_0_0 n x a b c d f g h i j k o p q s v w ae z aa ab ad af=some t→B86_0_0 x a b c d f g h i j k o p q s v w ae z aa ab ad af a b c d f g h i j k o p q s v w [] R N0 N1:=by
 unfold S86_0_0 B86_0_0
 refine cond_b (fun _=> ?_) (fun _=> ?_)
 ·refine bind_b fun ag ah=> ?_
  refine iq (intA ag) (opA_index_sc (E:=intE) (l:=([z,aa,ab,ad]:List Int)) (len:=4) (e:=3) krE krE krE rfl ⟨rfl,rfl⟩ ah rfl) ?_
  refine imp ex_i64_b ?_
  refine cond_b (fun _=> ?_) (fun _=> ?_)
  ·exact rt1 hR rfl rfl
  ·refine cond_b (fun _=> ?_) (fun _=> ?_)
   ·exact rt1 hR rfl rfl
   ·exact fun hg=>hN1 _ (Option.some.inj hg).symm _ (weak_mem [(0,0)] rfl rfl rfl (oR (oR (oR (oR (oR (oR okW_nil)))))) (okB_cons (okB_cells (cs:=[intA a,intA b,intA c,intA d,intA f,intA g,intA h,intA i,intA j,intA k,intA o,intA p,intA q,intA s,intA v,intA w]) (ty:=94) rfl (show mget _ 0=_ from (by first|rfl|(simp (disch:=first|decide|assumption) only [lk])))) okB_nil'))
 ·exact fun hg=>hN0 _ (Option.some.inj hg).symm _ (weak_mem [(0,0)] rfl rfl rfl (oR (oR (oR (oR okW_nil)))) (okB_cons (okB_cells (cs:=[intA a,intA b,intA c,intA d,intA f,intA g,intA h,intA i,intA j,intA k,intA o,intA p,intA q,intA s,intA v,intA w]) (ty:=94) rfl (show mget _ 0=_ from (by first|rfl|(simp (disch:=first|decide|assumption) only [lk])))) okB_nil'))
theorem L86_0_0_ok (n:Nat) (c2 a b c d f g i j l o p q v w aa ab ad ae af ag ah:Int) {t:((Int)⊕ρ86)} (R:AV→Mem→Prop) (N0:St→Prop) (hR:∀r:ρ86,t=(.inr r)→∀u m,Ans ((intA r)) u m→R u m) (hN0:∀y:Int,t=(.inl y)→∀s':St,Weak KK 55 0 s' (h86_0 c2 a b c d f g i j l o p q v w aa ab y a b c d f g i j l o p q v w aa ab [])→N0 s') (k:Nat) (x:Int) (hx:iterO (fun y:Int=>S86_0_0 n c2 a b c d f g i j l o p q v w aa ab ad ae af ag ah y) k x=some t) {s:St} (hw:Weak KK 55 0 s (h86_0_0 c2 a b c d f g i j l o p q v w aa ab ad ae af ag ah x a b c d f g i j l o p q v w aa ab [])):Tri pg KK 55 0 (.loop c86_0_0) s (q86_0_0 R N0):=
 L86_0_0 R N0 (σ:=Nat×(Int)) (fun z=>iterO (fun y:Int=>S86_0_0 n c2 a b c d f g i j l o p q v w aa ab ad ae af ag ah y) z.1 z.2=some t) (fun z=>c2) (fun z=>a) (fun z=>b) (fun z=>c) (fun z=>d) (fun z=>f) (fun z=>g) (fun z=>i) (fun z=>j) (fun z=>l) (fun z=>o) (fun z=>p) (fun z=>q) (fun z=>v) (fun z=>w) (fun z=>aa) (fun z=>ab) (fun z=>ad) (fun z=>ae) (fun z=>af) (fun z=>ag) (fun z=>ah) (fun z=>z.2) (fun z=>a) (fun z=>b) (fun z=>c) (fun z=>d) (fun z=>f) (fun z=>g) (fun z=>i) (fun z=>j) (fun z=>l) (fun z=>o) (fun z=>p) (fun z=>q) (fun z=>v) (fun z=>w) (fun z=>aa) (fun z=>ab) (fun z=>[]) (fun z=>z.1) (by
  rintro ⟨k,y⟩ h
  cases k with
  |zero=>exact (iterO_zero h).elim
  |succ k=>
   obtain ⟨u,h1,h2,h3⟩:=iterO_elim h
   exact B86_0_0_ok n c2 a b c d f g i j l o p q v w aa ab ad ae af ag ah y R N0 _ (fun r e=>hR r (h3 _ e).symm) (fun y' e=>hN0 y' (h3 _ e).symm) (fun y' e s' hw=>⟨(k,y'),h2 _ e,Nat.lt_succ_self k,hw⟩) h1) (k,x) hx hw
theorem B86_1_0_0_ok (n:Nat) (c2 w ab a b c d e f g h i j k o p q s v u32:Int) {t:(Int)⊕((Int)⊕((Int)⊕ρ86))} (R:AV→Mem→Prop) (N0 N1 N2:St→Prop) (hR:∀r:ρ86,t=(.inr (.inr (.inr r)))→∀u m,Ans ((intA r)) u m→R u m) (hN0:∀y:Int,t=(.inr (.inr (.inl y)))→∀s':St,Weak KK 55 0 s' (h86_1 c2 y a b c d e f g h i j k o p q s v [])→N0 s') (hN1:∀y:Int,t=(.inr (.inl y))→∀s':St,Weak KK 55 0 s' (h86_1_0 c2 w w y a b c d e f g h i j k o p q s v [])→N1 s') (hN2:∀y:Int,t=(.inl y)→∀s':St,Weak KK 55 0 s' (h86_1_0_0 c2 w ab w ab y a b c d e f g h i j k o p q s v [])→N2 s'):S86_1_0_0 n c2 w ab a b c d e f g h i j k o p q s v u32=some t→B86_1_0_0 c2 w ab w ab u32 a b c d e f g h i j k o p q s v [] R N0 N1 N2:=by
 unfold S86_1_0_0 B86_1_0_0
 refine cond_b (fun _=> ?_) (fun _=> ?_)
 ·refine bind_b fun x ad=> ?_
  refine iq (AV.ptr 0 (((w:Int).toNat)*4+0)) (idxA_ok0 (l:=([(⟨a,b,c,d⟩:T92),(⟨e,f,g,h⟩:T92),(⟨i,j,k,o⟩:T92),(⟨p,q,s,v⟩:T92)]:List T92)) (len:=4) rfl ad) ?_
  refine bind_b fun aj ae=> ?_
  refine iq (AV.ptr 0 _) (idxA_ok (l:=([x.c0,x.c1,x.c2,x.c3]:List Int)) (len:=4) rfl ae) ?_
  refine iq (intA aj) (ldS_row (E:=T92.E) (E2:=intE) (l:=([(⟨a,b,c,d⟩:T92),(⟨e,f,g,h⟩:T92),(⟨i,j,k,o⟩:T92),(⟨p,q,s,v⟩:T92)]:List T92)) (l2:=([x.c0,x.c1,x.c2,x.c3]:List Int)) (ty:=94) (by first|rfl|(simp (disch:=first|decide|assumption) only [lk])) (getI_some ad).2 rfl rfl (getI_some ae).2 rfl) ?_
  refine imp ex_i64_b ?_
  refine bind_b fun z af=> ?_
  refine iq (AV.ptr 0 (((w:Int).toNat)*4+0)) (idxA_ok0 (l:=([(⟨a,b,c,d⟩:T92),(⟨e,f,g,h⟩:T92),(⟨i,j,k,o⟩:T92),(⟨p,q,s,v⟩:T92)]:List T92)) (len:=4) rfl af) ?_
  refine bind_b fun ak ag=> ?_
  refine iq (AV.ptr 0 _) (idxA_ok (l:=([z.c0,z.c1,z.c2,z.c3]:List Int)) (len:=4) rfl ag) ?_
  refine iq (intA ak) (ldS_row (E:=T92.E) (E2:=intE) (l:=([(⟨a,b,c,d⟩:T92),(⟨e,f,g,h⟩:T92),(⟨i,j,k,o⟩:T92),(⟨p,q,s,v⟩:T92)]:List T92)) (l2:=([z.c0,z.c1,z.c2,z.c3]:List Int)) (ty:=94) (by first|rfl|(simp (disch:=first|decide|assumption) only [lk])) (getI_some af).2 rfl rfl (getI_some ag).2 rfl) ?_
  refine imp ex_i64_b ?_
  refine bind_b fun aa ah=> ?_
  refine iq (AV.ptr 0 (((ab:Int).toNat)*4+0)) (idxA_ok0 (l:=([(⟨a,b,c,d⟩:T92),(⟨e,f,g,h⟩:T92),(⟨i,j,k,o⟩:T92),(⟨p,q,s,v⟩:T92)]:List T92)) (len:=4) rfl ah) ?_
  refine bind_b fun al ai=> ?_
  refine iq (AV.ptr 0 _) (idxA_ok (l:=([aa.c0,aa.c1,aa.c2,aa.c3]:List Int)) (len:=4) rfl ai) ?_
  refine iq (intA al) (ldS_row (E:=T92.E) (E2:=intE) (l:=([(⟨a,b,c,d⟩:T92),(⟨e,f,g,h⟩:T92),(⟨i,j,k,o⟩:T92),(⟨p,q,s,v⟩:T92)]:List T92)) (l2:=([aa.c0,aa.c1,aa.c2,aa.c3]:List Int)) (ty:=94) (by first|rfl|(simp (disch:=first|decide|assumption) only [lk])) (getI_some ah).2 rfl rfl (getI_some ai).2 rfl) ?_
  refine imp ex_i64_b ?_
  refine cond_b (fun _=> ?_) (fun _=> ?_)
  ·exact rt1 hR rfl rfl
  ·exact fun hg=>hN2 _ (Option.some.inj hg).symm _ (weak_mem [(0,0)] rfl rfl rfl (oR (oR (oR (oR (oR (oR (oR okW_nil))))))) (okB_cons (okB_cells (cs:=[intA a,intA b,intA c,intA d,intA e,intA f,intA g,intA h,intA i,intA j,intA k,intA o,intA p,intA q,intA s,intA v]) (ty:=94) rfl (show mget _ 0=_ from (by first|rfl|(simp (disch:=first|decide|assumption) only [lk])))) okB_nil'))
 ·exact fun hg=>hN1 _ (Option.some.inj hg).symm _ (weak_mem [(0,0)] rfl rfl rfl (oR (oR (oR (oR (oR okW_nil))))) (okB_cons (okB_cells (cs:=[intA a,intA b,intA c,intA d,intA e,intA f,intA g,intA h,intA i,intA j,intA k,intA o,intA p,intA q,intA s,intA v]) (ty:=94) rfl (show mget _ 0=_ from (by first|rfl|(simp (disch:=first|decide|assumption) only [lk])))) okB_nil'))
theorem L86_1_0_0_ok (n:Nat) (b a c d f g i j l o p q v w aa ab ad ae af:Int) {t:((Int)⊕((Int)⊕ρ86))} (R:AV→Mem→Prop) (N0 N1:St→Prop) (hR:∀r:ρ86,t=(.inr (.inr r))→∀u m,Ans ((intA r)) u m→R u m) (hN0:∀y:Int,t=(.inr (.inl y))→∀s':St,Weak KK 55 0 s' (h86_1 b y d f g i j l o p q v w aa ab ad ae af [])→N0 s') (hN1:∀y:Int,t=(.inl y)→∀s':St,Weak KK 55 0 s' (h86_1_0 b a a y d f g i j l o p q v w aa ab ad ae af [])→N1 s') (k:Nat) (x:Int) (hx:iterO (fun y:Int=>S86_1_0_0 n b a c d f g i j l o p q v w aa ab ad ae af y) k x=some t) {s:St} (hw:Weak KK 55 0 s (h86_1_0_0 b a c a c x d f g i j l o p q v w aa ab ad ae af [])):Tri pg KK 55 0 (.loop c86_1_0_0) s (q86_1_0_0 R N0 N1):=
 L86_1_0_0 R N0 N1 (σ:=Nat×(Int)) (fun z=>iterO (fun y:Int=>S86_1_0_0 n b a c d f g i j l o p q v w aa ab ad ae af y) z.1 z.2=some t) (fun z=>b) (fun z=>a) (fun z=>c) (fun z=>a) (fun z=>c) (fun z=>z.2) (fun z=>d) (fun z=>f) (fun z=>g) (fun z=>i) (fun z=>j) (fun z=>l) (fun z=>o) (fun z=>p) (fun z=>q) (fun z=>v) (fun z=>w) (fun z=>aa) (fun z=>ab) (fun z=>ad) (fun z=>ae) (fun z=>af) (fun z=>[]) (fun z=>z.1) (by
  rintro ⟨k,y⟩ h
  cases k with
  |zero=>exact (iterO_zero h).elim
  |succ k=>
   obtain ⟨u,h1,h2,h3⟩:=iterO_elim h
   exact B86_1_0_0_ok n b a c d f g i j l o p q v w aa ab ad ae af y R N0 N1 _ (fun r e=>hR r (h3 _ e).symm) (fun y' e=>hN0 y' (h3 _ e).symm) (fun y' e=>hN1 y' (h3 _ e).symm) (fun y' e s' hw=>⟨(k,y'),h2 _ e,Nat.lt_succ_self k,hw⟩) h1) (k,x) hx hw
theorem B86_1_0_ok (n:Nat) (w v a b c d e f g h i j k l o p q s x:Int) {t:(Int)⊕((Int)⊕ρ86)} (R:AV→Mem→Prop) (N0 N1:St→Prop) (hR:∀r:ρ86,t=(.inr (.inr r))→∀u m,Ans ((intA r)) u m→R u m) (hN0:∀y:Int,t=(.inr (.inl y))→∀s':St,Weak KK 55 0 s' (h86_1 w y a b c d e f g h i j k l o p q s [])→N0 s') (hN1:∀y:Int,t=(.inl y)→∀s':St,Weak KK 55 0 s' (h86_1_0 w v v y a b c d e f g h i j k l o p q s [])→N1 s'):S86_1_0 n w v a b c d e f g h i j k l o p q s x=some t→B86_1_0 w v v x a b c d e f g h i j k l o p q s [] R N0 N1:=by
 unfold S86_1_0 B86_1_0
 refine cond_b (fun _=> ?_) (fun _=> ?_)
 ·exact fun hg=>L86_1_0_0_ok n w v x a b c d e f g h i j k l o p q s R N0 N1 hR hN0 hN1 n _ hg (weak_mem [(0,0)] rfl rfl rfl (oR (oR (oR (oR (oR (oR (oR okW_nil))))))) (okB_cons (okB_cells (cs:=[intA a,intA b,intA c,intA d,intA e,intA f,intA g,intA h,intA i,intA j,intA k,intA l,intA o,intA p,intA q,intA s]) (ty:=94) rfl (show mget _ 0=_ from (by first|rfl|(simp (disch:=first|decide|assumption) only [lk])))) okB_nil'))
 ·exact fun hg=>hN0 _ (Option.some.inj hg).symm _ (weak_mem [(0,0)] rfl rfl rfl (oR (oR (oR okW_nil))) (okB_cons (okB_cells (cs:=[intA a,intA b,intA c,intA d,intA e,intA f,intA g,intA h,intA i,intA j,intA k,intA l,intA o,intA p,intA q,intA s]) (ty:=94) rfl (show mget _ 0=_ from (by first|rfl|(simp (disch:=first|decide|assumption) only [lk])))) okB_nil'))
theorem L86_1_0_ok (n:Nat) (b a c d f g i j l o p q v w aa ab ad ae:Int) {t:((Int)⊕ρ86)} (R:AV→Mem→Prop) (N0:St→Prop) (hR:∀r:ρ86,t=(.inr r)→∀u m,Ans ((intA r)) u m→R u m) (hN0:∀y:Int,t=(.inl y)→∀s':St,Weak KK 55 0 s' (h86_1 b y c d f g i j l o p q v w aa ab ad ae [])→N0 s') (k:Nat) (x:Int) (hx:iterO (fun y:Int=>S86_1_0 n b a c d f g i j l o p q v w aa ab ad ae y) k x=some t) {s:St} (hw:Weak KK 55 0 s (h86_1_0 b a a x c d f g i j l o p q v w aa ab ad ae [])):Tri pg KK 55 0 (.loop c86_1_0) s (q86_1_0 R N0):=
 L86_1_0 R N0 (σ:=Nat×(Int)) (fun z=>iterO (fun y:Int=>S86_1_0 n b a c d f g i j l o p q v w aa ab ad ae y) z.1 z.2=some t) (fun z=>b) (fun z=>a) (fun z=>a) (fun z=>z.2) (fun z=>c) (fun z=>d) (fun z=>f) (fun z=>g) (fun z=>i) (fun z=>j) (fun z=>l) (fun z=>o) (fun z=>p) (fun z=>q) (fun z=>v) (fun z=>w) (fun z=>aa) (fun z=>ab) (fun z=>ad) (fun z=>ae) (fun z=>[]) (fun z=>z.1) (by
  rintro ⟨k,y⟩ h
  cases k with
  |zero=>exact (iterO_zero h).elim
  |succ k=>
   obtain ⟨u,h1,h2,h3⟩:=iterO_elim h
   exact B86_1_0_ok n b a c d f g i j l o p q v w aa ab ad ae y R N0 _ (fun r e=>hR r (h3 _ e).symm) (fun y' e=>hN0 y' (h3 _ e).symm) (fun y' e s' hw=>⟨(k,y'),h2 _ e,Nat.lt_succ_self k,hw⟩) h1) (k,x) hx hw
theorem B86_1_ok (n:Nat) (v a b c d e f g h i j k l o p q s w:Int) {t:(Int)⊕ρ86} (R:AV→Mem→Prop) (N0:St→Prop) (hR:∀r:ρ86,t=(.inr r)→∀u m,Ans ((intA r)) u m→R u m) (hN0:∀y:Int,t=(.inl y)→∀s':St,Weak KK 55 0 s' (h86_1 v y a b c d e f g h i j k l o p q s [])→N0 s'):S86_1 n v a b c d e f g h i j k l o p q s w=some t→B86_1 v w a b c d e f g h i j k l o p q s [] R N0:=by
 unfold S86_1 B86_1
 refine cond_b (fun _=> ?_) (fun _=> ?_)
 ·exact fun hg=>L86_1_0_ok n v w a b c d e f g h i j k l o p q s R N0 hR hN0 n _ hg (weak_mem [(0,0)] rfl rfl rfl (oR (oR (oR (oR (oR okW_nil))))) (okB_cons (okB_cells (cs:=[intA a,intA b,intA c,intA d,intA e,intA f,intA g,intA h,intA i,intA j,intA k,intA l,intA o,intA p,intA q,intA s]) (ty:=94) rfl (show mget _ 0=_ from (by first|rfl|(simp (disch:=first|decide|assumption) only [lk])))) okB_nil'))
 ·exact rt1 hR rfl rfl
theorem L86_1_ok (n:Nat) (a b c d f g i j l o p q v w aa ab ad:Int) {t:ρ86} (R:AV→Mem→Prop) (hR:∀r:ρ86,t=r→∀u m,Ans ((intA r)) u m→R u m) (k:Nat) (x:Int) (hx:iterO (fun y:Int=>S86_1 n a b c d f g i j l o p q v w aa ab ad y) k x=some t) {s:St} (hw:Weak KK 55 0 s (h86_1 a x b c d f g i j l o p q v w aa ab ad [])):Tri pg KK 55 0 (.loop c86_1) s (q86_1 R):=
 L86_1 R (σ:=Nat×(Int)) (fun z=>iterO (fun y:Int=>S86_1 n a b c d f g i j l o p q v w aa ab ad y) z.1 z.2=some t) (fun z=>a) (fun z=>z.2) (fun z=>b) (fun z=>c) (fun z=>d) (fun z=>f) (fun z=>g) (fun z=>i) (fun z=>j) (fun z=>l) (fun z=>o) (fun z=>p) (fun z=>q) (fun z=>v) (fun z=>w) (fun z=>aa) (fun z=>ab) (fun z=>ad) (fun z=>[]) (fun z=>z.1) (by
  rintro ⟨k,y⟩ h
  cases k with
  |zero=>exact (iterO_zero h).elim
  |succ k=>
   obtain ⟨u,h1,h2,h3⟩:=iterO_elim h
   exact B86_1_ok n a b c d f g i j l o p q v w aa ab ad y R _ (fun r e=>hR r (h3 _ e).symm) (fun y' e s' hw=>⟨(k,y'),h2 _ e,Nat.lt_succ_self k,hw⟩) h1) (k,x) hx hw
theorem B86_0_ok (n:Nat) (z a b c d f g h i j k o p q s v w aa:Int) {t:(Int)⊕ρ86} (R:AV→Mem→Prop) (N0:St→Prop) (hR:∀r:ρ86,t=(.inr r)→∀u m,Ans ((intA r)) u m→R u m) (hN0:∀y:Int,t=(.inl y)→∀s':St,Weak KK 55 0 s' (h86_0 z a b c d f g h i j k o p q s v w y a b c d f g h i j k o p q s v w [])→N0 s'):S86_0 n z a b c d f g h i j k o p q s v w aa=some t→B86_0 z a b c d f g h i j k o p q s v w aa a b c d f g h i j k o p q s v w [] R N0:=by
 unfold S86_0 B86_0
 refine cond_b (fun _=> ?_) (fun _=> ?_)
 ·refine bind_b fun x ab=> ?_
  refine iq (AV.agg [intA x.c0,intA x.c1,intA x.c2,intA x.c3]) (opA_index_agg (E:=T92.E) (l:=([(⟨a,b,c,d⟩:T92),(⟨f,g,h,i⟩:T92),(⟨j,k,o,p⟩:T92),(⟨q,s,v,w⟩:T92)]:List T92)) (len:=4) (e:=92) krE krE krE rfl ⟨rfl,rfl⟩ ab) ?_
  refine imp exA4_b ?_
  iterate 4 refine imp ex_i64_b ?_
  exact fun hg=>L86_0_0_ok n z a b c d f g h i j k o p q s v w aa x.c0 x.c1 x.c2 x.c3 R N0 hR hN0 n _ hg (weak_mem [(0,0)] rfl rfl rfl (oR (oR (oR (oR (oR (oR okW_nil)))))) (okB_cons (okB_cells (cs:=[intA a,intA b,intA c,intA d,intA f,intA g,intA h,intA i,intA j,intA k,intA o,intA p,intA q,intA s,intA v,intA w]) (ty:=94) rfl (show mget _ 0=_ from (by first|rfl|(simp (disch:=first|decide|assumption) only [lk])))) okB_nil'))
 ·refine mapInr_b fun t0 e0=> ?_
  exact fun hg=>L86_1_ok n z a b c d f g h i j k o p q s v w R (fun r e=>hR r (e0.trans (congrArg Sum.inr e))) n _ hg (weak_mem [(0,0)] rfl rfl rfl (oR (oR (oR okW_nil))) (okB_cons (okB_cells (cs:=[intA a,intA b,intA c,intA d,intA f,intA g,intA h,intA i,intA j,intA k,intA o,intA p,intA q,intA s,intA v,intA w]) (ty:=94) rfl (show mget _ 0=_ from (by first|rfl|(simp (disch:=first|decide|assumption) only [lk])))) okB_nil'))
theorem L86_0_ok (n:Nat) (c2 a b c d f g i j l o p q v w aa ab:Int) {t:ρ86} (R:AV→Mem→Prop) (hR:∀r:ρ86,t=r→∀u m,Ans ((intA r)) u m→R u m) (k:Nat) (x:Int) (hx:iterO (fun y:Int=>S86_0 n c2 a b c d f g i j l o p q v w aa ab y) k x=some t) {s:St} (hw:Weak KK 55 0 s (h86_0 c2 a b c d f g i j l o p q v w aa ab x a b c d f g i j l o p q v w aa ab [])):Tri pg KK 55 0 (.loop c86_0) s (q86_0 R):=
 L86_0 R (σ:=Nat×(Int)) (fun z=>iterO (fun y:Int=>S86_0 n c2 a b c d f g i j l o p q v w aa ab y) z.1 z.2=some t) (fun z=>c2) (fun z=>a) (fun z=>b) (fun z=>c) (fun z=>d) (fun z=>f) (fun z=>g) (fun z=>i) (fun z=>j) (fun z=>l) (fun z=>o) (fun z=>p) (fun z=>q) (fun z=>v) (fun z=>w) (fun z=>aa) (fun z=>ab) (fun z=>z.2) (fun z=>a) (fun z=>b) (fun z=>c) (fun z=>d) (fun z=>f) (fun z=>g) (fun z=>i) (fun z=>j) (fun z=>l) (fun z=>o) (fun z=>p) (fun z=>q) (fun z=>v) (fun z=>w) (fun z=>aa) (fun z=>ab) (fun z=>[]) (fun z=>z.1) (by
  rintro ⟨k,y⟩ h
  cases k with
  |zero=>exact (iterO_zero h).elim
  |succ k=>
   obtain ⟨u,h1,h2,h3⟩:=iterO_elim h
   exact B86_0_ok n c2 a b c d f g i j l o p q v w aa ab y R _ (fun r e=>hR r (h3 _ e).symm) (fun y' e s' hw=>⟨(k,y'),h2 _ e,Nat.lt_succ_self k,hw⟩) h1) (k,x) hx hw
theorem g86_ok (n:Nat) (a:TWakeTable) {t:ρ86} (R:AV→Mem→Prop) (hR:∀r:ρ86,t=r→∀u m,Ans ((intA r)) u m→R u m):g86 n a=some t→F86 a.c0_0 a.c0_1 a.c0_2 a.c0_3 a.c1_0 a.c1_1 a.c1_2 a.c1_3 a.c2_0 a.c2_1 a.c2_2 a.c2_3 a.c3_0 a.c3_1 a.c3_2 a.c3_3 R:=by
 unfold g86 F86
 exact fun hg=>L86_0_ok n (0) a.c0_0 a.c0_1 a.c0_2 a.c0_3 a.c1_0 a.c1_1 a.c1_2 a.c1_3 a.c2_0 a.c2_1 a.c2_2 a.c2_3 a.c3_0 a.c3_1 a.c3_2 a.c3_3 R hR n _ hg (weak_mem [(0,0)] rfl rfl rfl (oR (oR (oR (oR okW_nil)))) (okB_cons (okB_cells (cs:=[intA a.c0_0,intA a.c0_1,intA a.c0_2,intA a.c0_3,intA a.c1_0,intA a.c1_1,intA a.c1_2,intA a.c1_3,intA a.c2_0,intA a.c2_1,intA a.c2_2,intA a.c2_3,intA a.c3_0,intA a.c3_1,intA a.c3_2,intA a.c3_3]) (ty:=94) rfl (show mget _ 0=_ from (by first|rfl|(simp (disch:=first|decide|assumption) only [lk])))) okB_nil'))
theorem sg86 {n:Nat} {a:TWakeTable} {t:ρ86} (h:g86 n a=some t):Says pg KK.gl 86 [AV.agg [intA a.c0_0,intA a.c0_1,intA a.c0_2,intA a.c0_3,intA a.c1_0,intA a.c1_1,intA a.c1_2,intA a.c1_3,intA a.c2_0,intA a.c2_1,intA a.c2_2,intA a.c2_3,intA a.c3_0,intA a.c3_1,intA a.c3_2,intA a.c3_3]] ((intA t)):=
 says_of_own (by first|rfl|simp [cleans,clean,encs_clean,En.cln]) (by first|rfl|simp [cleans,clean,encs_clean,En.cln]) (F86_own a.c0_0 a.c0_1 a.c0_2 a.c0_3 a.c1_0 a.c1_1 a.c1_2 a.c1_3 a.c2_0 a.c2_1 a.c2_2 a.c2_3 a.c3_0 a.c3_1 a.c3_2 a.c3_3 _ (g86_ok n a (Ans ((intA t))) (fun r e u m h=>by rw [e];exact h) h))
/- skyway/polygon.next -/
theorem g300_ok (n:Nat) (b:List TP) (c:Int) {t:ρ300} (R:AV→Mem→Prop) (hR:∀r:ρ300,t=r→∀u m,Ans ((AV.agg (TP.E.enc r))) u m→R u m):g300 n b c=some t→F300 (lstA TP.E b) c R:=by
 unfold g300 F300
 refine iq (intA (b.length:Int)) rfl ?_
 refine imp ex_i64_b ?_
 refine bind_b fun d e=> ?_
 refine iq (intA d) (opA_rem e) ?_
 refine imp ex_i64_b ?_
 refine bind_b fun a f=> ?_
 refine iq (AV.ept [intA a.X,intA a.Y] 0) (idx_lst (E:=TP.E) rfl f) ?_
 refine iq (AV.agg [intA a.X,intA a.Y]) rfl ?_
 refine imp exA2_b ?_
 iterate 2 refine imp ex_i64_b ?_
 exact fun hg=>ret1 (hR _ (Option.some.inj hg).symm) (fz_el (E:=TP.E) _ a)
theorem sg300 {n:Nat} {a:List TP} {b:Int} {t:ρ300} (h:g300 n a b=some t):Says pg KK.gl 300 [lstA TP.E a,intA b] ((AV.agg (TP.E.enc t))):=
 says_of_own (by first|rfl|simp [cleans,clean,encs_clean,En.cln]) (by first|rfl|simp [cleans,clean,encs_clean,En.cln]) (F300_own (lstA TP.E a) b _ (g300_ok n a b (Ans ((AV.agg (TP.E.enc t)))) (fun r e u m h=>by rw [e];exact h) h))
/- skyway/plane.Cross -/
theorem g336_ok (n:Nat) (a b:TP) {t:ρ336} (R:AV→Mem→Prop) (hR:∀r:ρ336,t=r→∀u m,Ans ((intA r)) u m→R u m):g336 n a b=some t→F336 a.X a.Y b.X b.Y R:=by
 unfold g336 F336
 exact rt1 hR rfl rfl
theorem sg336 {n:Nat} {a:TP} {b:TP} {t:ρ336} (h:g336 n a b=some t):Says pg KK.gl 336 [AV.agg [intA a.X,intA a.Y],AV.agg [intA b.X,intA b.Y]] ((intA t)):=
 says_of_own (by first|rfl|simp [cleans,clean,encs_clean,En.cln]) (by first|rfl|simp [cleans,clean,encs_clean,En.cln]) (F336_own a.X a.Y b.X b.Y _ (g336_ok n a b (Ans ((intA t))) (fun r e u m h=>by rw [e];exact h) h))
/- skyway/plane.Turn -/
theorem g299_ok (n:Nat) (a b c:TP) {t:ρ299} (R:AV→Mem→Prop) (hR:∀r:ρ299,t=r→∀u m,Ans ((intA r)) u m→R u m):g299 n a b c=some t→F299 a.X a.Y b.X b.Y c.X c.Y R:=by
 unfold g299 F299
 refine bind_b fun g d=> ?_
 refine imp (callQ_says (sg242 d)) ?_
 refine imp exA2_b ?_
 iterate 2 refine imp ex_i64_b ?_
 refine bind_b fun h e=> ?_
 refine imp (callQ_says (sg242 e)) ?_
 refine imp exA2_b ?_
 iterate 2 refine imp ex_i64_b ?_
 refine bind_b fun i f=> ?_
 refine imp (callQ_says (sg336 f)) ?_
 refine imp ex_i64_b ?_
 refine cond_b (fun _=> ?_) (fun _=> ?_)
 ·exact rt1 hR rfl rfl
 ·refine cond_b (fun _=> ?_) (fun _=> ?_)
  ·exact rt1 hR rfl rfl
  ·exact rt1 hR rfl rfl
theorem sg299 {n:Nat} {a:TP} {b:TP} {c:TP} {t:ρ299} (h:g299 n a b c=some t):Says pg KK.gl 299 [AV.agg [intA a.X,intA a.Y],AV.agg [intA b.X,intA b.Y],AV.agg [intA c.X,intA c.Y]] ((intA t)):=
 says_of_own (by first|rfl|simp [cleans,clean,encs_clean,En.cln]) (by first|rfl|simp [cleans,clean,encs_clean,En.cln]) (F299_own a.X a.Y b.X b.Y c.X c.Y _ (g299_ok n a b c (Ans ((intA t))) (fun r e u m h=>by rw [e];exact h) h))
/- skyway/polygon.between -/
theorem g339_ok (n:Nat) (a b c:TP) {t:ρ339} (R:AV→Mem→Prop) (hR:∀r:ρ339,t=r→∀u m,Ans ((boolA r)) u m→R u m):g339 n a b c=some t→F339 a.X a.Y b.X b.Y c.X c.Y R:=by
 unfold g339 F339
 refine iq (intA (if b.X<a.X then b.X else a.X)) krE ?_
 refine imp ex_i64_b ?_
 refine cond_b (fun _=> ?_) (fun _=> ?_)
 ·refine iq (intA (if b.X>a.X then b.X else a.X)) krE ?_
  refine imp ex_i64_b ?_
  refine cond_b (fun _=> ?_) (fun _=> ?_)
  ·refine iq (intA (if b.Y<a.Y then b.Y else a.Y)) krE ?_
   refine imp ex_i64_b ?_
   refine cond_b (fun _=> ?_) (fun _=> ?_)
   ·refine iq (intA (if b.Y>a.Y then b.Y else a.Y)) krE ?_
    refine imp ex_i64_b ?_
    exact rt1 hR rfl rfl
   ·exact rt1 hR rfl rfl
  ·exact rt1 hR rfl rfl
 ·exact rt1 hR rfl rfl
theorem sg339 {n:Nat} {a:TP} {b:TP} {c:TP} {t:ρ339} (h:g339 n a b c=some t):Says pg KK.gl 339 [AV.agg [intA a.X,intA a.Y],AV.agg [intA b.X,intA b.Y],AV.agg [intA c.X,intA c.Y]] ((boolA t)):=
 says_of_own (by first|rfl|simp [cleans,clean,encs_clean,En.cln]) (by first|rfl|simp [cleans,clean,encs_clean,En.cln]) (F339_own a.X a.Y b.X b.Y c.X c.Y _ (g339_ok n a b c (Ans ((boolA t))) (fun r e u m h=>by rw [e];exact h) h))
/- skyway/polygon.on -/
theorem g306_ok (n:Nat) (a b c:TP) {t:ρ306} (R:AV→Mem→Prop) (hR:∀r:ρ306,t=r→∀u m,Ans ((boolA r)) u m→R u m):g306 n a b c=some t→F306 a.X a.Y b.X b.Y c.X c.Y R:=by
 unfold g306 F306
 refine bind_b fun f d=> ?_
 refine imp (callQ_says (sg299 d)) ?_
 refine imp ex_i64_b ?_
 refine cond_b (fun _=> ?_) (fun _=> ?_)
 ·refine bind_b fun g e=> ?_
  refine imp (callQ_says (sg339 e)) ?_
  refine imp exB_b ?_
  exact rt1 hR rfl rfl
 ·exact rt1 hR rfl rfl
theorem sg306 {n:Nat} {a:TP} {b:TP} {c:TP} {t:ρ306} (h:g306 n a b c=some t):Says pg KK.gl 306 [AV.agg [intA a.X,intA a.Y],AV.agg [intA b.X,intA b.Y],AV.agg [intA c.X,intA c.Y]] ((boolA t)):=
 says_of_own (by first|rfl|simp [cleans,clean,encs_clean,En.cln]) (by first|rfl|simp [cleans,clean,encs_clean,En.cln]) (F306_own a.X a.Y b.X b.Y c.X c.Y _ (g306_ok n a b c (Ans ((boolA t))) (fun r e u m h=>by rw [e];exact h) h))
/- skyway/polygon.Place -/
theorem B246_0_ok (n:Nat) (g:List TP) (h i e d f j:Int) {t:(Int×Int)⊕ρ246} (R:AV→Mem→Prop) (N0:St→Prop) (hR:∀r:ρ246,t=(.inr r)→∀u m,Ans ((intA r)) u m→R u m) (hN0:∀y:Int×Int,t=(.inl y)→∀s':St,Weak KK 65 0 s' (h246_0 (lstA TP.E g) h y.1 i y.2 e d [])→N0 s'):S246_0 n g h i e d f j=some t→B246_0 (lstA TP.E g) h f i j e d [] R N0:=by
 unfold S246_0 B246_0
 refine cond_b (fun _=> ?_) (fun _=> ?_)
 ·refine bind_b fun a k=> ?_
  refine imp (opM_of (show _=some ((AV.ept [intA a.X,intA a.Y] 0),[]) from (idx_lst (E:=TP.E) rfl k))) ?_
  refine imp (opM_of (show _=some ((AV.agg [intA a.X,intA a.Y]),[]) from rfl)) ?_
  refine imp exA2_b ?_
  iterate 2 refine imp ex_i64_b ?_
  refine bind_b fun c l=> ?_
  refine imp (callF_says (sg300 l)) ?_
  refine imp exA2_b ?_
  iterate 2 refine imp ex_i64_b ?_
  refine imp (storeW_cells (sz:=2) krE krE rfl rfl (cs:=[intA (0),intA (0)]) (cs':=[intA a.X,intA a.Y]) (ty:=38) (by first|rfl|(rw [look'_mem (by first|rfl|simp [topId_blk]|simp [topId])];first|rfl|(simp (disch:=first|decide|assumption) only [lk]))) rfl rfl) ?_
  refine imp (storeW_cells (sz:=2) krE krE rfl rfl (cs:=[intA (0),intA (0)]) (cs':=[intA c.X,intA c.Y]) (ty:=38) (by first|rfl|(rw [look'_mem (by first|rfl|simp [topId_blk]|simp [topId])];first|rfl|(simp (disch:=first|decide|assumption) only [lk]))) rfl rfl) ?_
  refine imp (chk_of krE) ?_
  refine iq (AV.agg [intA a.X,intA a.Y]) (ldA_ptr (b:=⟨[intA a.X,intA a.Y],38⟩) (by first|rfl|(simp (disch:=first|decide|assumption) only [lk])) rfl) ?_
  refine imp exA2_b ?_
  iterate 2 refine imp ex_i64_b ?_
  refine iq (AV.agg [intA c.X,intA c.Y]) (ldA_ptr (b:=⟨[intA c.X,intA c.Y],38⟩) (by first|rfl|(simp (disch:=first|decide|assumption) only [lk])) rfl) ?_
  refine imp exA2_b ?_
  iterate 2 refine imp ex_i64_b ?_
  refine iq (AV.agg [intA e,intA d]) (ldA_ptr (b:=⟨[intA e,intA d],38⟩) (by first|rfl|(simp (disch:=first|decide|assumption) only [lk])) rfl) ?_
  refine imp exA2_b ?_
  iterate 2 refine imp ex_i64_b ?_
  refine bind_b fun q o=> ?_
  refine imp (callQ_says (sg306 o)) ?_
  refine imp exB_b ?_
  refine cond_b (fun _=> ?_) (fun _=> ?_)
  ·exact rt1 hR rfl rfl
  ·refine iq (intA a.Y) (ldS_ptr (b:=⟨[intA a.X,intA a.Y],38⟩) (by first|rfl|(simp (disch:=first|decide|assumption) only [lk])) rfl) ?_
   refine imp ex_i64_b ?_
   refine iq (intA d) (ldS_ptr (b:=⟨[intA e,intA d],38⟩) (by first|rfl|(simp (disch:=first|decide|assumption) only [lk])) rfl) ?_
   refine imp ex_i64_b ?_
   refine iq (intA c.Y) (ldS_ptr (b:=⟨[intA c.X,intA c.Y],38⟩) (by first|rfl|(simp (disch:=first|decide|assumption) only [lk])) rfl) ?_
   refine imp ex_i64_b ?_
   refine iq (intA d) (ldS_ptr (b:=⟨[intA e,intA d],38⟩) (by first|rfl|(simp (disch:=first|decide|assumption) only [lk])) rfl) ?_
   refine imp ex_i64_b ?_
   refine iq (boolA (!((decide (a.Y>d))==(decide (c.Y>d))))) krE ?_
   refine imp exB_b ?_
   refine cond_b (fun _=> ?_) (fun _=> ?_)
   ·refine iq (AV.agg [intA a.X,intA a.Y]) (ldA_ptr (b:=⟨[intA a.X,intA a.Y],38⟩) (by first|rfl|(simp (disch:=first|decide|assumption) only [lk])) rfl) ?_
    refine imp exA2_b ?_
    iterate 2 refine imp ex_i64_b ?_
    refine iq (AV.agg [intA c.X,intA c.Y]) (ldA_ptr (b:=⟨[intA c.X,intA c.Y],38⟩) (by first|rfl|(simp (disch:=first|decide|assumption) only [lk])) rfl) ?_
    refine imp exA2_b ?_
    iterate 2 refine imp ex_i64_b ?_
    refine iq (AV.agg [intA e,intA d]) (ldA_ptr (b:=⟨[intA e,intA d],38⟩) (by first|rfl|(simp (disch:=first|decide|assumption) only [lk])) rfl) ?_
    refine imp exA2_b ?_
    iterate 2 refine imp ex_i64_b ?_
    refine bind_b fun s p=> ?_
    refine imp (callQ_says (sg299 p)) ?_
    refine imp ex_i64_b ?_
    refine iq (intA c.Y) (ldS_ptr (b:=⟨[intA c.X,intA c.Y],38⟩) (by first|rfl|(simp (disch:=first|decide|assumption) only [lk])) rfl) ?_
    refine imp ex_i64_b ?_
    refine iq (intA a.Y) (ldS_ptr (b:=⟨[intA a.X,intA a.Y],38⟩) (by first|rfl|(simp (disch:=first|decide|assumption) only [lk])) rfl) ?_
    refine imp ex_i64_b ?_
    refine cond_b (fun _=> ?_) (fun _=> ?_)
    ·refine cond_b (fun _=> ?_) (fun _=> ?_)
     ·refine iq (intA (IntKind.wrap .i64 (0-f))) krE ?_
      refine imp ex_i64_b ?_
      exact fun hg=>hN0 _ (Option.some.inj hg).symm _ (weak_mem [(0,0)] rfl rfl rfl (okW_cons (ent_lst (E:=TP.E) _ false) (oR (oR (oR (oR (oR okW_nil)))))) (okB_cons (okB_cells (cs:=[intA e,intA d]) (ty:=38) rfl (show mget _ 0=_ from (by first|rfl|(simp (disch:=first|decide|assumption) only [lk])))) okB_nil'))
     ·refine iq (intA c.Y) (ldS_ptr (b:=⟨[intA c.X,intA c.Y],38⟩) (by first|rfl|(simp (disch:=first|decide|assumption) only [lk])) rfl) ?_
      refine imp ex_i64_b ?_
      refine iq (intA a.Y) (ldS_ptr (b:=⟨[intA a.X,intA a.Y],38⟩) (by first|rfl|(simp (disch:=first|decide|assumption) only [lk])) rfl) ?_
      refine imp ex_i64_b ?_
      refine cond_b (fun _=> ?_) (fun _=> ?_)
      ·refine cond_b (fun _=> ?_) (fun _=> ?_)
       ·refine iq (intA (IntKind.wrap .i64 (0-f))) krE ?_
        refine imp ex_i64_b ?_
        exact fun hg=>hN0 _ (Option.some.inj hg).symm _ (weak_mem [(0,0)] rfl rfl rfl (okW_cons (ent_lst (E:=TP.E) _ false) (oR (oR (oR (oR (oR okW_nil)))))) (okB_cons (okB_cells (cs:=[intA e,intA d]) (ty:=38) rfl (show mget _ 0=_ from (by first|rfl|(simp (disch:=first|decide|assumption) only [lk])))) okB_nil'))
       ·exact fun hg=>hN0 _ (Option.some.inj hg).symm _ (weak_mem [(0,0)] rfl rfl rfl (okW_cons (ent_lst (E:=TP.E) _ false) (oR (oR (oR (oR (oR okW_nil)))))) (okB_cons (okB_cells (cs:=[intA e,intA d]) (ty:=38) rfl (show mget _ 0=_ from (by first|rfl|(simp (disch:=first|decide|assumption) only [lk])))) okB_nil'))
      ·exact fun hg=>hN0 _ (Option.some.inj hg).symm _ (weak_mem [(0,0)] rfl rfl rfl (okW_cons (ent_lst (E:=TP.E) _ false) (oR (oR (oR (oR (oR okW_nil)))))) (okB_cons (okB_cells (cs:=[intA e,intA d]) (ty:=38) rfl (show mget _ 0=_ from (by first|rfl|(simp (disch:=first|decide|assumption) only [lk])))) okB_nil'))
    ·refine iq (intA c.Y) (ldS_ptr (b:=⟨[intA c.X,intA c.Y],38⟩) (by first|rfl|(simp (disch:=first|decide|assumption) only [lk])) rfl) ?_
     refine imp ex_i64_b ?_
     refine iq (intA a.Y) (ldS_ptr (b:=⟨[intA a.X,intA a.Y],38⟩) (by first|rfl|(simp (disch:=first|decide|assumption) only [lk])) rfl) ?_
     refine imp ex_i64_b ?_
     refine cond_b (fun _=> ?_) (fun _=> ?_)
     ·refine cond_b (fun _=> ?_) (fun _=> ?_)
      ·refine iq (intA (IntKind.wrap .i64 (0-f))) krE ?_
       refine imp ex_i64_b ?_
       exact fun hg=>hN0 _ (Option.some.inj hg).symm _ (weak_mem [(0,0)] rfl rfl rfl (okW_cons (ent_lst (E:=TP.E) _ false) (oR (oR (oR (oR (oR okW_nil)))))) (okB_cons (okB_cells (cs:=[intA e,intA d]) (ty:=38) rfl (show mget _ 0=_ from (by first|rfl|(simp (disch:=first|decide|assumption) only [lk])))) okB_nil'))
      ·exact fun hg=>hN0 _ (Option.some.inj hg).symm _ (weak_mem [(0,0)] rfl rfl rfl (okW_cons (ent_lst (E:=TP.E) _ false) (oR (oR (oR (oR (oR okW_nil)))))) (okB_cons (okB_cells (cs:=[intA e,intA d]) (ty:=38) rfl (show mget _ 0=_ from (by first|rfl|(simp (disch:=first|decide|assumption) only [lk])))) okB_nil'))
     ·exact fun hg=>hN0 _ (Option.some.inj hg).symm _ (weak_mem [(0,0)] rfl rfl rfl (okW_cons (ent_lst (E:=TP.E) _ false) (oR (oR (oR (oR (oR okW_nil)))))) (okB_cons (okB_cells (cs:=[intA e,intA d]) (ty:=38) rfl (show mget _ 0=_ from (by first|rfl|(simp (disch:=first|decide|assumption) only [lk])))) okB_nil'))
   ·exact fun hg=>hN0 _ (Option.some.inj hg).symm _ (weak_mem [(0,0)] rfl rfl rfl (okW_cons (ent_lst (E:=TP.E) _ false) (oR (oR (oR (oR (oR okW_nil)))))) (okB_cons (okB_cells (cs:=[intA e,intA d]) (ty:=38) rfl (show mget _ 0=_ from (by first|rfl|(simp (disch:=first|decide|assumption) only [lk])))) okB_nil'))
 ·exact rt1 hR rfl rfl
theorem L246_0_ok (n:Nat) (a:List TP) (b c d f:Int) {t:ρ246} (R:AV→Mem→Prop) (hR:∀r:ρ246,t=r→∀u m,Ans ((intA r)) u m→R u m) (k:Nat) (x:Int×Int) (hx:iterO (fun y:Int×Int=>S246_0 n a b c d f y.1 y.2) k x=some t) {s:St} (hw:Weak KK 65 0 s (h246_0 (lstA TP.E a) b x.1 c x.2 d f [])):Tri pg KK 65 0 (.loop c246_0) s (q246_0 R):=
 L246_0 R (σ:=Nat×(Int×Int)) (fun z=>iterO (fun y:Int×Int=>S246_0 n a b c d f y.1 y.2) z.1 z.2=some t) (fun z=>(lstA TP.E a)) (fun z=>b) (fun z=>z.2.1) (fun z=>c) (fun z=>z.2.2) (fun z=>d) (fun z=>f) (fun z=>[]) (fun z=>z.1) (by
  rintro ⟨k,y⟩ h
  cases k with
  |zero=>exact (iterO_zero h).elim
  |succ k=>
   obtain ⟨u,g,i,j⟩:=iterO_elim h
   exact B246_0_ok n a b c d f y.1 y.2 R _ (fun r e=>hR r (j _ e).symm) (fun y' e s' hw=>⟨(k,y'),i _ e,Nat.lt_succ_self k,hw⟩) g) (k,x) hx hw
theorem g246_ok (n:Nat) (b:List TP) (a:TP) {t:ρ246} (R:AV→Mem→Prop) (hR:∀r:ρ246,t=r→∀u m,Ans ((intA r)) u m→R u m):g246 n b a=some t→F246 (lstA TP.E b) a.X a.Y R:=by
 unfold g246 F246
 refine iq (intA (b.length:Int)) rfl ?_
 refine imp ex_i64_b ?_
 exact fun hg=>L246_0_ok n b (0) (b.length:Int) a.X a.Y R hR n _ hg (weak_mem [(0,0)] rfl rfl rfl (okW_cons (ent_lst (E:=TP.E) _ false) (oR (oR (oR (oR (oR okW_nil)))))) (okB_cons (okB_cells (cs:=[intA a.X,intA a.Y]) (ty:=38) rfl (show mget _ 0=_ from (by first|rfl|(simp (disch:=first|decide|assumption) only [lk])))) okB_nil'))
theorem sg246 {n:Nat} {b:List TP} {a:TP} {t:ρ246} (h:g246 n b a=some t):Says pg KK.gl 246 [lstA TP.E b,AV.agg [intA a.X,intA a.Y]] ((intA t)):=
 says_of_own (by first|rfl|simp [cleans,clean,encs_clean,En.cln]) (by first|rfl|simp [cleans,clean,encs_clean,En.cln]) (F246_own (lstA TP.E b) a.X a.Y _ (g246_ok n b a (Ans ((intA t))) (fun r e u m h=>by rw [e];exact h) h))
/- skyway/volume.Contains -/
theorem g183_ok (n:Nat) (a:TVolume) (b:TP) (c:Int) {t:ρ183} (R:AV→Mem→Prop) (hR:∀r:ρ183,t=r→∀u m,Ans ((boolA r)) u m→R u m):g183 n a b c=some t→F183 (lstA TP.E a.Area) a.Low a.High b.X b.Y c R:=by
 unfold g183 F183
 refine imp (chk_of rfl) ?_
 refine cond_b (fun _=> ?_) (fun _=> ?_)
 ·refine cond_b (fun _=> ?_) (fun _=> ?_)
  ·refine bind_b fun e d=> ?_
   refine imp (callQ_says (sg246 d)) ?_
   refine imp ex_i64_b ?_
   exact rt1 hR rfl rfl
  ·exact rt1 hR rfl rfl
 ·exact rt1 hR rfl rfl
theorem sg183 {n:Nat} {a:TVolume} {b:TP} {c:Int} {t:ρ183} (h:g183 n a b c=some t):Says pg KK.gl 183 [AV.agg [lstA TP.E a.Area,intA a.Low,intA a.High],AV.agg [intA b.X,intA b.Y],intA c] ((boolA t)):=
 says_of_own (by first|rfl|simp [cleans,clean,encs_clean,En.cln]) (by first|rfl|simp [cleans,clean,encs_clean,En.cln]) (F183_own (lstA TP.E a.Area) a.Low a.High b.X b.Y c _ (g183_ok n a b c (Ans ((boolA t))) (fun r e u m h=>by rw [e];exact h) h))
/- skyway/sector.Place$1$1 -/
theorem g182_ok (n:Nat) (a:TVolume) (b c d:Int) {t:ρ182} (R:AV→Mem→Prop) (hR:∀r:ρ182,t=r→∀u m,Ans ((boolA r)) u m→R u m):g182 n a b c d=some t→F182 (lstA TP.E a.Area) a.Low a.High (AV.ept [intA b,intA c] 0) (AV.ept [intA d] 0) R:=by
 unfold g182 F182
 refine imp (chk_of rfl) ?_
 refine iq (AV.agg [intA b,intA c]) rfl ?_
 refine imp exA2_b ?_
 iterate 2 refine imp ex_i64_b ?_
 refine iq (intA d) rfl ?_
 refine imp ex_i64_b ?_
 refine bind_b fun f e=> ?_
 refine imp (callQ_says (sg183 e)) ?_
 refine imp exB_b ?_
 exact rt1 hR rfl rfl
theorem sg182 {n:Nat} {a:TVolume} {b:Int} {c:Int} {d:Int} {t:ρ182} (h:g182 n a b c d=some t):Says pg KK.gl 182 [AV.agg [lstA TP.E a.Area,intA a.Low,intA a.High],AV.ept [intA b,intA c] 0,AV.ept [intA d] 0] ((boolA t)):=
 says_of_own (by first|rfl|simp [cleans,clean,encs_clean,En.cln]) (by first|rfl|simp [cleans,clean,encs_clean,En.cln]) (F182_own (lstA TP.E a.Area) a.Low a.High (AV.ept [intA b,intA c] 0) (AV.ept [intA d] 0) _ (g182_ok n a b c d (Ans ((boolA t))) (fun r e u m h=>by rw [e];exact h) h))
/- slices.IndexFunc[[]skyway/api.Volume,skyway/api.Volume] -/
theorem B245_0_ok (n:Nat) (b:List TVolume) (c d e f c7 g:Int) {t:(Int)⊕ρ245} (R:AV→Mem→Prop) (N0:St→Prop) (hR:∀r:ρ245,t=(.inr r)→∀u m,Ans ((intA r)) u m→R u m) (hN0:∀y:Int,t=(.inl y)→∀s':St,Weak KK 19 0 s' (h245_0 (lstA TVolume.E b) (AV.fn 182 [AV.ept [intA c,intA d] 0,AV.ept [intA e] 0]) f c7 y [])→N0 s'):S245_0 n b c d e f c7 g=some t→B245_0 (lstA TVolume.E b) (AV.fn 182 [AV.ept [intA c,intA d] 0,AV.ept [intA e] 0]) f c7 g [] R N0:=by
 unfold S245_0 B245_0
 refine cond_b (fun _=> ?_) (fun _=> ?_)
 ·refine bind_b fun a h=> ?_
  refine iq (AV.ept [lstA TP.E a.Area,intA a.Low,intA a.High] 0) (idx_lst (E:=TVolume.E) rfl h) ?_
  refine iq (AV.agg [lstA TP.E a.Area,intA a.Low,intA a.High]) rfl ?_
  refine imp exA3_b ?_
  iterate 2 refine imp ex_i64_b ?_
  refine bind_b fun j i=> ?_
  refine imp fnArgs_b ?_
  refine imp (cond_ff rfl) ?_
  refine imp (callW_says (sg182 i)) ?_
  refine imp exB_b ?_
  refine cond_b (fun _=> ?_) (fun _=> ?_)
  ·exact rt1 hR rfl rfl
  ·exact fun hg=>hN0 _ (Option.some.inj hg).symm _ (weak_mem [] rfl rfl rfl (okW_cons (ent_lst (E:=TVolume.E) _ false) (okW_cons (ent_clean (leV_refl _) (by simp [clean,cleans,encs_clean])) (oR (oR (oR okW_nil))))) okB_nil')
 ·exact rt1 hR rfl rfl
theorem L245_0_ok (n:Nat) (a:List TVolume) (b c d f c7:Int) {t:ρ245} (R:AV→Mem→Prop) (hR:∀r:ρ245,t=r→∀u m,Ans ((intA r)) u m→R u m) (k:Nat) (x:Int) (hx:iterO (fun y:Int=>S245_0 n a b c d f c7 y) k x=some t) {s:St} (hw:Weak KK 19 0 s (h245_0 (lstA TVolume.E a) (AV.fn 182 [AV.ept [intA b,intA c] 0,AV.ept [intA d] 0]) f c7 x [])):Tri pg KK 19 0 (.loop c245_0) s (q245_0 R):=
 L245_0 R (σ:=Nat×(Int)) (fun z=>iterO (fun y:Int=>S245_0 n a b c d f c7 y) z.1 z.2=some t) (fun z=>(lstA TVolume.E a)) (fun z=>(AV.fn 182 [AV.ept [intA b,intA c] 0,AV.ept [intA d] 0])) (fun z=>f) (fun z=>c7) (fun z=>z.2) (fun z=>[]) (fun z=>z.1) (by
  rintro ⟨k,y⟩ h
  cases k with
  |zero=>exact (iterO_zero h).elim
  |succ k=>
   obtain ⟨u,g,i,j⟩:=iterO_elim h
   exact B245_0_ok n a b c d f c7 y R _ (fun r e=>hR r (j _ e).symm) (fun y' e s' hw=>⟨(k,y'),i _ e,Nat.lt_succ_self k,hw⟩) g) (k,x) hx hw
theorem g245_ok (n:Nat) (a:List TVolume) (b c d:Int) {t:ρ245} (R:AV→Mem→Prop) (hR:∀r:ρ245,t=r→∀u m,Ans ((intA r)) u m→R u m):g245 n a b c d=some t→F245 (lstA TVolume.E a) (AV.fn 182 [AV.ept [intA b,intA c] 0,AV.ept [intA d] 0]) R:=by
 unfold g245 F245
 refine iq (intA (a.length:Int)) rfl ?_
 refine imp ex_i64_b ?_
 exact fun hg=>L245_0_ok n a b c d (0) (a.length:Int) R hR n _ hg (weak_mem [] rfl rfl rfl (okW_cons (ent_lst (E:=TVolume.E) _ false) (okW_cons (ent_clean (leV_refl _) (by simp [clean,cleans,encs_clean])) (oR (oR (oR okW_nil))))) okB_nil')
theorem sg245 {n:Nat} {a:List TVolume} {b:Int} {c:Int} {d:Int} {t:ρ245} (h:g245 n a b c d=some t):Says pg KK.gl 245 [lstA TVolume.E a,AV.fn 182 [AV.ept [intA b,intA c] 0,AV.ept [intA d] 0]] ((intA t)):=
 says_of_own (by first|rfl|simp [cleans,clean,encs_clean,En.cln]) (by first|rfl|simp [cleans,clean,encs_clean,En.cln]) (F245_own (lstA TVolume.E a) (AV.fn 182 [AV.ept [intA b,intA c] 0,AV.ept [intA d] 0]) _ (g245_ok n a b c d (Ans ((intA t))) (fun r e u m h=>by rw [e];exact h) h))
/- slices.ContainsFunc[[]skyway/api.Volume,skyway/api.Volume] -/
theorem g181_ok (n:Nat) (a:List TVolume) (b c d:Int) {t:ρ181} (R:AV→Mem→Prop) (hR:∀r:ρ181,t=r→∀u m,Ans ((boolA r)) u m→R u m):g181 n a b c d=some t→F181 (lstA TVolume.E a) (AV.fn 182 [AV.ept [intA b,intA c] 0,AV.ept [intA d] 0]) R:=by
 unfold g181 F181
 refine bind_b fun f e=> ?_
 refine imp (callQ_says (sg245 e)) ?_
 refine imp ex_i64_b ?_
 exact rt1 hR rfl rfl
theorem sg181 {n:Nat} {a:List TVolume} {b:Int} {c:Int} {d:Int} {t:ρ181} (h:g181 n a b c d=some t):Says pg KK.gl 181 [lstA TVolume.E a,AV.fn 182 [AV.ept [intA b,intA c] 0,AV.ept [intA d] 0]] ((boolA t)):=
 says_of_own (by first|rfl|simp [cleans,clean,encs_clean,En.cln]) (by first|rfl|simp [cleans,clean,encs_clean,En.cln]) (F181_own (lstA TVolume.E a) (AV.fn 182 [AV.ept [intA b,intA c] 0,AV.ept [intA d] 0]) _ (g181_ok n a b c d (Ans ((boolA t))) (fun r e u m h=>by rw [e];exact h) h))
/- skyway/sector.Place$1 -/
theorem g180_ok (n:Nat) (a:TSector) (b c d:Int) {t:ρ180} (R:AV→Mem→Prop) (hR:∀r:ρ180,t=r→∀u m,Ans ((boolA r)) u m→R u m):g180 n a b c d=some t→F180 a.Name (lstA TVolume.E a.Room) (AV.ept [intA b,intA c] 0) (AV.ept [intA d] 0) R:=by
 unfold g180 F180
 refine imp (chk_of rfl) ?_
 refine bind_b fun f e=> ?_
 refine imp (callQ_says (sg181 e)) ?_
 refine imp exB_b ?_
 exact rt1 hR rfl rfl
theorem sg180 {n:Nat} {a:TSector} {b:Int} {c:Int} {d:Int} {t:ρ180} (h:g180 n a b c d=some t):Says pg KK.gl 180 [AV.agg [strA a.Name,lstA TVolume.E a.Room],AV.ept [intA b,intA c] 0,AV.ept [intA d] 0] ((boolA t)):=
 says_of_own (by first|rfl|simp [cleans,clean,encs_clean,En.cln]) (by first|rfl|simp [cleans,clean,encs_clean,En.cln]) (F180_own a.Name (lstA TVolume.E a.Room) (AV.ept [intA b,intA c] 0) (AV.ept [intA d] 0) _ (g180_ok n a b c d (Ans ((boolA t))) (fun r e u m h=>by rw [e];exact h) h))
/- slices.IndexFunc[[]skyway/api.Sector,skyway/api.Sector] -/
theorem B179_0_ok (n:Nat) (b:List TSector) (c d e f c7 g:Int) {t:(Int)⊕ρ179} (R:AV→Mem→Prop) (N0:St→Prop) (hR:∀r:ρ179,t=(.inr r)→∀u m,Ans ((intA r)) u m→R u m) (hN0:∀y:Int,t=(.inl y)→∀s':St,Weak KK 19 0 s' (h179_0 (lstA TSector.E b) (AV.fn 180 [AV.ept [intA c,intA d] 0,AV.ept [intA e] 0]) f c7 y [])→N0 s'):S179_0 n b c d e f c7 g=some t→B179_0 (lstA TSector.E b) (AV.fn 180 [AV.ept [intA c,intA d] 0,AV.ept [intA e] 0]) f c7 g [] R N0:=by
 unfold S179_0 B179_0
 refine cond_b (fun _=> ?_) (fun _=> ?_)
 ·refine bind_b fun a h=> ?_
  refine iq (AV.ept [strA a.Name,lstA TVolume.E a.Room] 0) (idx_lst (E:=TSector.E) rfl h) ?_
  refine iq (AV.agg [strA a.Name,lstA TVolume.E a.Room]) rfl ?_
  refine imp exA2_b ?_
  refine imp exStr_b ?_
  refine bind_b fun j i=> ?_
  refine imp fnArgs_b ?_
  refine imp (cond_ff rfl) ?_
  refine imp (callW_says (sg180 i)) ?_
  refine imp exB_b ?_
  refine cond_b (fun _=> ?_) (fun _=> ?_)
  ·exact rt1 hR rfl rfl
  ·exact fun hg=>hN0 _ (Option.some.inj hg).symm _ (weak_mem [] rfl rfl rfl (okW_cons (ent_lst (E:=TSector.E) _ false) (okW_cons (ent_clean (leV_refl _) (by simp [clean,cleans,encs_clean])) (oR (oR (oR okW_nil))))) okB_nil')
 ·exact rt1 hR rfl rfl
theorem L179_0_ok (n:Nat) (a:List TSector) (b c d f c7:Int) {t:ρ179} (R:AV→Mem→Prop) (hR:∀r:ρ179,t=r→∀u m,Ans ((intA r)) u m→R u m) (k:Nat) (x:Int) (hx:iterO (fun y:Int=>S179_0 n a b c d f c7 y) k x=some t) {s:St} (hw:Weak KK 19 0 s (h179_0 (lstA TSector.E a) (AV.fn 180 [AV.ept [intA b,intA c] 0,AV.ept [intA d] 0]) f c7 x [])):Tri pg KK 19 0 (.loop c179_0) s (q179_0 R):=
 L179_0 R (σ:=Nat×(Int)) (fun z=>iterO (fun y:Int=>S179_0 n a b c d f c7 y) z.1 z.2=some t) (fun z=>(lstA TSector.E a)) (fun z=>(AV.fn 180 [AV.ept [intA b,intA c] 0,AV.ept [intA d] 0])) (fun z=>f) (fun z=>c7) (fun z=>z.2) (fun z=>[]) (fun z=>z.1) (by
  rintro ⟨k,y⟩ h
  cases k with
  |zero=>exact (iterO_zero h).elim
  |succ k=>
   obtain ⟨u,g,i,j⟩:=iterO_elim h
   exact B179_0_ok n a b c d f c7 y R _ (fun r e=>hR r (j _ e).symm) (fun y' e s' hw=>⟨(k,y'),i _ e,Nat.lt_succ_self k,hw⟩) g) (k,x) hx hw
theorem g179_ok (n:Nat) (a:List TSector) (b c d:Int) {t:ρ179} (R:AV→Mem→Prop) (hR:∀r:ρ179,t=r→∀u m,Ans ((intA r)) u m→R u m):g179 n a b c d=some t→F179 (lstA TSector.E a) (AV.fn 180 [AV.ept [intA b,intA c] 0,AV.ept [intA d] 0]) R:=by
 unfold g179 F179
 refine iq (intA (a.length:Int)) rfl ?_
 refine imp ex_i64_b ?_
 exact fun hg=>L179_0_ok n a b c d (0) (a.length:Int) R hR n _ hg (weak_mem [] rfl rfl rfl (okW_cons (ent_lst (E:=TSector.E) _ false) (okW_cons (ent_clean (leV_refl _) (by simp [clean,cleans,encs_clean])) (oR (oR (oR okW_nil))))) okB_nil')
theorem sg179 {n:Nat} {a:List TSector} {b:Int} {c:Int} {d:Int} {t:ρ179} (h:g179 n a b c d=some t):Says pg KK.gl 179 [lstA TSector.E a,AV.fn 180 [AV.ept [intA b,intA c] 0,AV.ept [intA d] 0]] ((intA t)):=
 says_of_own (by first|rfl|simp [cleans,clean,encs_clean,En.cln]) (by first|rfl|simp [cleans,clean,encs_clean,En.cln]) (F179_own (lstA TSector.E a) (AV.fn 180 [AV.ept [intA b,intA c] 0,AV.ept [intA d] 0]) _ (g179_ok n a b c d (Ans ((intA t))) (fun r e u m h=>by rw [e];exact h) h))
/- skyway/sector.Place -/
theorem g112_ok (n:Nat) (c:List TSector) (a:TP) (b:Int) {t:ρ112} (R:AV→Mem→Prop) (hR:∀r:ρ112,t=r→∀u m,Ans ((intA r)) u m→R u m):g112 n c a b=some t→F112 (lstA TSector.E c) a.X a.Y b R:=by
 unfold g112 F112
 refine bind_b fun e d=> ?_
 refine imp (callQ_pure (pure_snapN (snL_cons (sn_lst (E:=TSector.E) _ _ false) (snL_cons (sn_fn _ _ (snL_cons (sn_ptr _ (ty:=38) (us:=[intA a.X,intA a.Y]) (by first|rfl|(simp (disch:=first|decide|assumption) only [lk])) (snL_cons (sn_sc _ _) (snL_cons (sn_sc _ _) snL_nil))) (snL_cons (sn_ptr _ (ty:=3) (us:=[intA b]) (by first|rfl|(simp (disch:=first|decide|assumption) only [lk])) (snL_cons (sn_sc _ _) snL_nil)) snL_nil))) snL_nil)) (sg179 d) rfl)) ?_
 refine imp ex_i64_b ?_
 exact rt1 hR rfl rfl
theorem sg112 {n:Nat} {b:List TSector} {a:TP} {c:Int} {t:ρ112} (h:g112 n b a c=some t):Says pg KK.gl 112 [lstA TSector.E b,AV.agg [intA a.X,intA a.Y],intA c] ((intA t)):=
 says_of_own (by first|rfl|simp [cleans,clean,encs_clean,En.cln]) (by first|rfl|simp [cleans,clean,encs_clean,En.cln]) (F112_own (lstA TSector.E b) a.X a.Y c _ (g112_ok n b a c (Ans ((intA t))) (fun r e u m h=>by rw [e];exact h) h))
/- skyway/chart.Name -/
theorem B49_0_ok (n:Nat) (a:Bool) (b:List UInt8) (c d:Int) {t:(Int)⊕ρ49} (R:AV→Mem→Prop) (N0:St→Prop) (hR:∀r:ρ49,t=(.inr r)→∀u m,Ans ((boolA r)) u m→R u m) (hN0:∀y:Int,t=(.inl y)→∀s':St,Weak KK 41 0 s' (h49_0 a (lstA byteE b) c y [])→N0 s'):S49_0 n a b c d=some t→B49_0 a (lstA byteE b) c d [] R N0:=by
 unfold S49_0 B49_0
 refine cond_b (fun _=> ?_) (fun _=> ?_)
 ·refine bind_b fun e f=> ?_
  refine iq (AV.ept [AV.sc (.int .u8 (e.toNat:Int))] 0) (idx_lst (E:=byteE) rfl f) ?_
  refine iq (AV.sc (.int .u8 (e.toNat:Int))) rfl ?_
  refine imp ex_u8_b ?_
  refine cond_b (fun _=> ?_) (fun _=> ?_)
  ·refine cond_b (fun _=> ?_) (fun _=> ?_)
   ·exact fun hg=>hN0 _ (Option.some.inj hg).symm _ (weak_mem [] rfl rfl rfl (oR (okW_cons (ent_lst (E:=byteE) _ false) (oR (oR okW_nil)))) okB_nil')
   ·refine cond_b (fun _=> ?_) (fun _=> ?_)
    ·refine cond_b (fun _=> ?_) (fun _=> ?_)
     ·refine cond_b (fun _=> ?_) (fun _=> ?_)
      ·exact rt1 hR rfl rfl
      ·exact fun hg=>hN0 _ (Option.some.inj hg).symm _ (weak_mem [] rfl rfl rfl (oR (okW_cons (ent_lst (E:=byteE) _ false) (oR (oR okW_nil)))) okB_nil')
     ·exact rt1 hR rfl rfl
    ·exact rt1 hR rfl rfl
  ·refine cond_b (fun _=> ?_) (fun _=> ?_)
   ·refine cond_b (fun _=> ?_) (fun _=> ?_)
    ·refine cond_b (fun _=> ?_) (fun _=> ?_)
     ·exact rt1 hR rfl rfl
     ·exact fun hg=>hN0 _ (Option.some.inj hg).symm _ (weak_mem [] rfl rfl rfl (oR (okW_cons (ent_lst (E:=byteE) _ false) (oR (oR okW_nil)))) okB_nil')
    ·exact rt1 hR rfl rfl
   ·exact rt1 hR rfl rfl
 ·exact rt1 hR rfl rfl
theorem L49_0_ok (n:Nat) (a:Bool) (b:List UInt8) (c:Int) {t:ρ49} (R:AV→Mem→Prop) (hR:∀r:ρ49,t=r→∀u m,Ans ((boolA r)) u m→R u m) (k:Nat) (x:Int) (hx:iterO (fun y:Int=>S49_0 n a b c y) k x=some t) {s:St} (hw:Weak KK 41 0 s (h49_0 a (lstA byteE b) c x [])):Tri pg KK 41 0 (.loop c49_0) s (q49_0 R):=
 L49_0 R (σ:=Nat×(Int)) (fun z=>iterO (fun y:Int=>S49_0 n a b c y) z.1 z.2=some t) (fun z=>a) (fun z=>(lstA byteE b)) (fun z=>c) (fun z=>z.2) (fun z=>[]) (fun z=>z.1) (by
  rintro ⟨k,y⟩ h
  cases k with
  |zero=>exact (iterO_zero h).elim
  |succ k=>
   obtain ⟨u,d,f,g⟩:=iterO_elim h
   exact B49_0_ok n a b c y R _ (fun r e=>hR r (g _ e).symm) (fun y' e s' hw=>⟨(k,y'),f _ e,Nat.lt_succ_self k,hw⟩) d) (k,x) hx hw
theorem g49_ok (n:Nat) (a:ByteArray) {t:ρ49} (R:AV→Mem→Prop) (hR:∀r:ρ49,t=r→∀u m,Ans ((boolA r)) u m→R u m):g49 n a=some t→F49 a R:=by
 unfold g49 F49
 refine iq (intA (a.size:Int)) krE ?_
 refine imp ex_i64_b ?_
 refine cond_b (fun _=> ?_) (fun _=> ?_)
 ·exact rt1 hR rfl rfl
 ·refine iq (intA (a.size:Int)) krE ?_
  refine imp ex_i64_b ?_
  refine cond_b (fun _=> ?_) (fun _=> ?_)
  ·exact rt1 hR rfl rfl
  ·refine bind_b fun c b=> ?_
   refine iq (lstA byteE (a.data.toList)) (opA_bytes (e:=5) krE krE krE b) ?_
   refine iq (intA ((a.data.toList).length:Int)) rfl ?_
   refine imp ex_i64_b ?_
   exact fun hg=>L49_0_ok n false (a.data.toList) ((a.data.toList).length:Int) R hR n _ hg (weak_mem [] rfl rfl rfl (oR (okW_cons (ent_lst (E:=byteE) _ false) (oR (oR okW_nil)))) okB_nil')
theorem sg49 {n:Nat} {a:ByteArray} {t:ρ49} (h:g49 n a=some t):Says pg KK.gl 49 [strA a] ((boolA t)):=
 says_of_own (by first|rfl|simp [cleans,clean,encs_clean,En.cln]) (by first|rfl|simp [cleans,clean,encs_clean,En.cln]) (F49_own a _ (g49_ok n a (Ans ((boolA t))) (fun r e u m h=>by rw [e];exact h) h))
/- skyway/sector.Name -/
theorem g172_ok (n:Nat) (a:ByteArray) {t:ρ172} (R:AV→Mem→Prop) (hR:∀r:ρ172,t=r→∀u m,Ans ((boolA r)) u m→R u m):g172 n a=some t→F172 a R:=by
 unfold g172 F172
 refine bind_b fun c b=> ?_
 refine imp (callQ_says (sg49 b)) ?_
 refine imp exB_b ?_
 exact rt1 hR rfl rfl
theorem sg172 {n:Nat} {a:ByteArray} {t:ρ172} (h:g172 n a=some t):Says pg KK.gl 172 [strA a] ((boolA t)):=
 says_of_own (by first|rfl|simp [cleans,clean,encs_clean,En.cln]) (by first|rfl|simp [cleans,clean,encs_clean,En.cln]) (F172_own a _ (g172_ok n a (Ans ((boolA t))) (fun r e u m h=>by rw [e];exact h) h))
/- skyway/polygon.crosses -/
theorem g303_ok (n:Nat) (a b c d:TP) {t:ρ303} (R:AV→Mem→Prop) (hR:∀r:ρ303,t=r→∀u m,Ans ((boolA r)) u m→R u m):g303 n a b c d=some t→F303 a.X a.Y b.X b.Y c.X c.Y d.X d.Y R:=by
 unfold g303 F303
 refine bind_b fun i e=> ?_
 refine imp (callQ_says (sg299 e)) ?_
 refine imp ex_i64_b ?_
 refine bind_b fun j f=> ?_
 refine imp (callQ_says (sg299 f)) ?_
 refine imp ex_i64_b ?_
 refine cond_b (fun _=> ?_) (fun _=> ?_)
 ·refine bind_b fun k g=> ?_
  refine imp (callQ_says (sg299 g)) ?_
  refine imp ex_i64_b ?_
  refine bind_b fun l h=> ?_
  refine imp (callQ_says (sg299 h)) ?_
  refine imp ex_i64_b ?_
  exact rt1 hR rfl rfl
 ·exact rt1 hR rfl rfl
theorem sg303 {n:Nat} {a:TP} {b:TP} {c:TP} {d:TP} {t:ρ303} (h:g303 n a b c d=some t):Says pg KK.gl 303 [AV.agg [intA a.X,intA a.Y],AV.agg [intA b.X,intA b.Y],AV.agg [intA c.X,intA c.Y],AV.agg [intA d.X,intA d.Y]] ((boolA t)):=
 says_of_own (by first|rfl|simp [cleans,clean,encs_clean,En.cln]) (by first|rfl|simp [cleans,clean,encs_clean,En.cln]) (F303_own a.X a.Y b.X b.Y c.X c.Y d.X d.Y _ (g303_ok n a b c d (Ans ((boolA t))) (fun r e u m h=>by rw [e];exact h) h))
/- skyway/polygon.Common -/
theorem g301_ok (n:Nat) (a b c d:TP) {t:ρ301} (R:AV→Mem→Prop) (hR:∀r:ρ301,t=r→∀u m,Ans ((boolA r)) u m→R u m):g301 n a b c d=some t→F301 a.X a.Y b.X b.Y c.X c.Y d.X d.Y R:=by
 unfold g301 F301
 refine bind_b fun j e=> ?_
 refine imp (callQ_says (sg303 e)) ?_
 refine imp exB_b ?_
 refine cond_b (fun _=> ?_) (fun _=> ?_)
 ·exact rt1 hR rfl rfl
 ·refine bind_b fun k f=> ?_
  refine imp (callQ_says (sg306 f)) ?_
  refine imp exB_b ?_
  refine cond_b (fun _=> ?_) (fun _=> ?_)
  ·exact rt1 hR rfl rfl
  ·refine bind_b fun l g=> ?_
   refine imp (callQ_says (sg306 g)) ?_
   refine imp exB_b ?_
   refine cond_b (fun _=> ?_) (fun _=> ?_)
   ·exact rt1 hR rfl rfl
   ·refine bind_b fun o h=> ?_
    refine imp (callQ_says (sg306 h)) ?_
    refine imp exB_b ?_
    refine cond_b (fun _=> ?_) (fun _=> ?_)
    ·exact rt1 hR rfl rfl
    ·refine bind_b fun p i=> ?_
     refine imp (callQ_says (sg306 i)) ?_
     refine imp exB_b ?_
     exact rt1 hR rfl rfl
theorem sg301 {n:Nat} {a:TP} {b:TP} {c:TP} {d:TP} {t:ρ301} (h:g301 n a b c d=some t):Says pg KK.gl 301 [AV.agg [intA a.X,intA a.Y],AV.agg [intA b.X,intA b.Y],AV.agg [intA c.X,intA c.Y],AV.agg [intA d.X,intA d.Y]] ((boolA t)):=
 says_of_own (by first|rfl|simp [cleans,clean,encs_clean,En.cln]) (by first|rfl|simp [cleans,clean,encs_clean,En.cln]) (F301_own a.X a.Y b.X b.Y c.X c.Y d.X d.Y _ (g301_ok n a b c d (Ans ((boolA t))) (fun r e u m h=>by rw [e];exact h) h))
/- skyway/polygon.twice -/
theorem B302_0_ok (n:Nat) (b:List TP) (c c6 d e:Int) {t:(Int×Int)⊕ρ302} (R:AV→Mem→Prop) (N0:St→Prop) (hR:∀r:ρ302,t=(.inr r)→∀u m,Ans ((intA r)) u m→R u m) (hN0:∀y:Int×Int,t=(.inl y)→∀s':St,Weak KK 22 0 s' (h302_0 (lstA TP.E b) c y.1 c6 y.2 [])→N0 s'):S302_0 n b c c6 d e=some t→B302_0 (lstA TP.E b) c d c6 e [] R N0:=by
 unfold S302_0 B302_0
 refine cond_b (fun _=> ?_) (fun _=> ?_)
 ·refine bind_b fun a f=> ?_
  refine iq (AV.ept [intA a.X,intA a.Y] 0) (idx_lst (E:=TP.E) rfl f) ?_
  refine iq (AV.agg [intA a.X,intA a.Y]) rfl ?_
  refine imp exA2_b ?_
  iterate 2 refine imp ex_i64_b ?_
  refine bind_b fun i g=> ?_
  refine imp (callQ_says (sg300 g)) ?_
  refine imp exA2_b ?_
  iterate 2 refine imp ex_i64_b ?_
  refine bind_b fun j h=> ?_
  refine imp (callQ_says (sg336 h)) ?_
  refine imp ex_i64_b ?_
  exact fun hg=>hN0 _ (Option.some.inj hg).symm _ (weak_mem [] rfl rfl rfl (okW_cons (ent_lst (E:=TP.E) _ false) (oR (oR (oR (oR okW_nil))))) okB_nil')
 ·exact rt1 hR rfl rfl
theorem L302_0_ok (n:Nat) (a:List TP) (b c6:Int) {t:ρ302} (R:AV→Mem→Prop) (hR:∀r:ρ302,t=r→∀u m,Ans ((intA r)) u m→R u m) (k:Nat) (x:Int×Int) (hx:iterO (fun y:Int×Int=>S302_0 n a b c6 y.1 y.2) k x=some t) {s:St} (hw:Weak KK 22 0 s (h302_0 (lstA TP.E a) b x.1 c6 x.2 [])):Tri pg KK 22 0 (.loop c302_0) s (q302_0 R):=
 L302_0 R (σ:=Nat×(Int×Int)) (fun z=>iterO (fun y:Int×Int=>S302_0 n a b c6 y.1 y.2) z.1 z.2=some t) (fun z=>(lstA TP.E a)) (fun z=>b) (fun z=>z.2.1) (fun z=>c6) (fun z=>z.2.2) (fun z=>[]) (fun z=>z.1) (by
  rintro ⟨k,y⟩ h
  cases k with
  |zero=>exact (iterO_zero h).elim
  |succ k=>
   obtain ⟨u,c,d,f⟩:=iterO_elim h
   exact B302_0_ok n a b c6 y.1 y.2 R _ (fun r e=>hR r (f _ e).symm) (fun y' e s' hw=>⟨(k,y'),d _ e,Nat.lt_succ_self k,hw⟩) c) (k,x) hx hw
theorem g302_ok (n:Nat) (a:List TP) {t:ρ302} (R:AV→Mem→Prop) (hR:∀r:ρ302,t=r→∀u m,Ans ((intA r)) u m→R u m):g302 n a=some t→F302 (lstA TP.E a) R:=by
 unfold g302 F302
 refine iq (intA (a.length:Int)) rfl ?_
 refine imp ex_i64_b ?_
 exact fun hg=>L302_0_ok n a (0) (a.length:Int) R hR n _ hg (weak_mem [] rfl rfl rfl (okW_cons (ent_lst (E:=TP.E) _ false) (oR (oR (oR (oR okW_nil))))) okB_nil')
theorem sg302 {n:Nat} {a:List TP} {t:ρ302} (h:g302 n a=some t):Says pg KK.gl 302 [lstA TP.E a] ((intA t)):=
 says_of_own (by first|rfl|simp [cleans,clean,encs_clean,En.cln]) (by first|rfl|simp [cleans,clean,encs_clean,En.cln]) (F302_own (lstA TP.E a) _ (g302_ok n a (Ans ((intA t))) (fun r e u m h=>by rw [e];exact h) h))
/- skyway/polygon.Check -/
theorem B243_1_0_ok (n:Nat) (b:List TP) (c c3 a d g:Int) {t:(Int)⊕((Int)⊕ρ243)} (R:AV→Mem→Prop) (N0 N1:St→Prop) (hR:∀r:ρ243,t=(.inr (.inr r))→∀u m,Ans ((intA r)) u m→R u m) (hN0:∀y:Int,t=(.inr (.inl y))→∀s':St,Weak KK 84 0 s' (h243_1 (lstA TP.E b) c c3 d y [])→N0 s') (hN1:∀y:Int,t=(.inl y)→∀s':St,Weak KK 84 0 s' (h243_1_0 (lstA TP.E b) c c3 a y d a [])→N1 s'):S243_1_0 n b c c3 a d g=some t→B243_1_0 (lstA TP.E b) c c3 a g d a [] R N0 N1:=by
 unfold S243_1_0 B243_1_0
 refine cond_b (fun _=> ?_) (fun _=> ?_)
 ·refine bind_b fun h i=> ?_
  refine iq (intA h) (opA_rem i) ?_
  refine imp ex_i64_b ?_
  refine cond_b (fun _=> ?_) (fun _=> ?_)
  ·refine bind_b fun e j=> ?_
   refine iq (AV.ept [intA e.X,intA e.Y] 0) (idx_lst (E:=TP.E) rfl j) ?_
   refine iq (AV.agg [intA e.X,intA e.Y]) rfl ?_
   refine imp exA2_b ?_
   iterate 2 refine imp ex_i64_b ?_
   refine bind_b fun q k=> ?_
   refine imp (callQ_says (sg300 k)) ?_
   refine imp exA2_b ?_
   iterate 2 refine imp ex_i64_b ?_
   refine bind_b fun f l=> ?_
   refine iq (AV.ept [intA f.X,intA f.Y] 0) (idx_lst (E:=TP.E) rfl l) ?_
   refine iq (AV.agg [intA f.X,intA f.Y]) rfl ?_
   refine imp exA2_b ?_
   iterate 2 refine imp ex_i64_b ?_
   refine bind_b fun s o=> ?_
   refine imp (callQ_says (sg300 o)) ?_
   refine imp exA2_b ?_
   iterate 2 refine imp ex_i64_b ?_
   refine bind_b fun v p=> ?_
   refine imp (callQ_says (sg301 p)) ?_
   refine imp exB_b ?_
   refine cond_b (fun _=> ?_) (fun _=> ?_)
   ·exact rt1 hR rfl rfl
   ·exact fun hg=>hN1 _ (Option.some.inj hg).symm _ (weak_mem [] rfl rfl rfl (okW_cons (ent_lst (E:=TP.E) _ false) (oR (oR (oR (oR (oR (oR okW_nil))))))) okB_nil')
  ·exact fun hg=>hN1 _ (Option.some.inj hg).symm _ (weak_mem [] rfl rfl rfl (okW_cons (ent_lst (E:=TP.E) _ false) (oR (oR (oR (oR (oR (oR okW_nil))))))) okB_nil')
 ·exact fun hg=>hN0 _ (Option.some.inj hg).symm _ (weak_mem [] rfl rfl rfl (okW_cons (ent_lst (E:=TP.E) _ false) (oR (oR (oR (oR okW_nil))))) okB_nil')
theorem L243_1_0_ok (n:Nat) (b:List TP) (c c3 a d:Int) {t:((Int)⊕ρ243)} (R:AV→Mem→Prop) (N0:St→Prop) (hR:∀r:ρ243,t=(.inr r)→∀u m,Ans ((intA r)) u m→R u m) (hN0:∀y:Int,t=(.inl y)→∀s':St,Weak KK 84 0 s' (h243_1 (lstA TP.E b) c c3 d y [])→N0 s') (k:Nat) (x:Int) (hx:iterO (fun y:Int=>S243_1_0 n b c c3 a d y) k x=some t) {s:St} (hw:Weak KK 84 0 s (h243_1_0 (lstA TP.E b) c c3 a x d a [])):Tri pg KK 84 0 (.loop c243_1_0) s (q243_1_0 R N0):=
 L243_1_0 R N0 (σ:=Nat×(Int)) (fun z=>iterO (fun y:Int=>S243_1_0 n b c c3 a d y) z.1 z.2=some t) (fun z=>(lstA TP.E b)) (fun z=>c) (fun z=>c3) (fun z=>a) (fun z=>z.2) (fun z=>d) (fun z=>a) (fun z=>[]) (fun z=>z.1) (by
  rintro ⟨k,y⟩ h
  cases k with
  |zero=>exact (iterO_zero h).elim
  |succ k=>
   obtain ⟨u,g,i,f⟩:=iterO_elim h
   exact B243_1_0_ok n b c c3 a d y R N0 _ (fun r e=>hR r (f _ e).symm) (fun y' e=>hN0 y' (f _ e).symm) (fun y' e s' hw=>⟨(k,y'),i _ e,Nat.lt_succ_self k,hw⟩) g) (k,x) hx hw
theorem B243_1_ok (n:Nat) (a:List TP) (b c3 c f:Int) {t:(Int)⊕ρ243} (R:AV→Mem→Prop) (N0:St→Prop) (hR:∀r:ρ243,t=(.inr r)→∀u m,Ans ((intA r)) u m→R u m) (hN0:∀y:Int,t=(.inl y)→∀s':St,Weak KK 84 0 s' (h243_1 (lstA TP.E a) b c3 c y [])→N0 s'):S243_1 n a b c3 c f=some t→B243_1 (lstA TP.E a) b c3 c f [] R N0:=by
 unfold S243_1 B243_1
 refine cond_b (fun _=> ?_) (fun _=> ?_)
 ·refine bind_b fun d g=> ?_
  refine iq (AV.ept [intA d.X,intA d.Y] 0) (idx_lst (E:=TP.E) rfl g) ?_
  refine iq (AV.agg [intA d.X,intA d.Y]) rfl ?_
  refine imp exA2_b ?_
  iterate 2 refine imp ex_i64_b ?_
  refine bind_b fun p h=> ?_
  refine imp (callQ_says (sg300 h)) ?_
  refine imp exA2_b ?_
  iterate 2 refine imp ex_i64_b ?_
  refine bind_b fun i j=> ?_
  refine iq (intA i) (opA_rem j) ?_
  refine imp ex_i64_b ?_
  refine bind_b fun e k=> ?_
  refine iq (AV.ept [intA e.X,intA e.Y] 0) (idx_lst (E:=TP.E) rfl k) ?_
  refine iq (AV.agg [intA e.X,intA e.Y]) rfl ?_
  refine imp exA2_b ?_
  iterate 2 refine imp ex_i64_b ?_
  refine bind_b fun q l=> ?_
  refine imp (callQ_says (sg299 l)) ?_
  refine imp ex_i64_b ?_
  refine cond_b (fun _=> ?_) (fun _=> ?_)
  ·exact rt1 hR rfl rfl
  ·exact fun hg=>L243_1_0_ok n a b c3 f c R N0 hR hN0 n _ hg (weak_mem [] rfl rfl rfl (okW_cons (ent_lst (E:=TP.E) _ false) (oR (oR (oR (oR (oR (oR okW_nil))))))) okB_nil')
 ·refine bind_b fun s o=> ?_
  refine imp (callQ_says (sg302 o)) ?_
  refine imp ex_i64_b ?_
  refine cond_b (fun _=> ?_) (fun _=> ?_)
  ·exact rt1 hR rfl rfl
  ·exact rt1 hR rfl rfl
theorem L243_1_ok (n:Nat) (a:List TP) (b c3 c:Int) {t:ρ243} (R:AV→Mem→Prop) (hR:∀r:ρ243,t=r→∀u m,Ans ((intA r)) u m→R u m) (k:Nat) (x:Int) (hx:iterO (fun y:Int=>S243_1 n a b c3 c y) k x=some t) {s:St} (hw:Weak KK 84 0 s (h243_1 (lstA TP.E a) b c3 c x [])):Tri pg KK 84 0 (.loop c243_1) s (q243_1 R):=
 L243_1 R (σ:=Nat×(Int)) (fun z=>iterO (fun y:Int=>S243_1 n a b c3 c y) z.1 z.2=some t) (fun z=>(lstA TP.E a)) (fun z=>b) (fun z=>c3) (fun z=>c) (fun z=>z.2) (fun z=>[]) (fun z=>z.1) (by
  rintro ⟨k,y⟩ h
  cases k with
  |zero=>exact (iterO_zero h).elim
  |succ k=>
   obtain ⟨u,d,f,g⟩:=iterO_elim h
   exact B243_1_ok n a b c3 c y R _ (fun r e=>hR r (g _ e).symm) (fun y' e s' hw=>⟨(k,y'),f _ e,Nat.lt_succ_self k,hw⟩) d) (k,x) hx hw
theorem B243_0_ok (n:Nat) (a:List TP) (b c3 d:Int) {t:(Int)⊕ρ243} (R:AV→Mem→Prop) (N0:St→Prop) (hR:∀r:ρ243,t=(.inr r)→∀u m,Ans ((intA r)) u m→R u m) (hN0:∀y:Int,t=(.inl y)→∀s':St,Weak KK 84 0 s' (h243_0 (lstA TP.E a) b c3 (lstA TP.E a) c3 y [])→N0 s'):S243_0 n a b c3 d=some t→B243_0 (lstA TP.E a) b c3 (lstA TP.E a) c3 d [] R N0:=by
 unfold S243_0 B243_0
 refine cond_b (fun _=> ?_) (fun _=> ?_)
 ·refine bind_b fun c f=> ?_
  refine iq (AV.ept [intA c.X,intA c.Y] 0) (idx_lst (E:=TP.E) rfl f) ?_
  refine iq (AV.agg [intA c.X,intA c.Y]) rfl ?_
  refine imp exA2_b ?_
  iterate 2 refine imp ex_i64_b ?_
  refine bind_b fun h g=> ?_
  refine imp (callQ_says (sg70 g)) ?_
  refine imp ex_i64_b ?_
  refine cond_b (fun _=> ?_) (fun _=> ?_)
  ·exact rt1 hR rfl rfl
  ·exact fun hg=>hN0 _ (Option.some.inj hg).symm _ (weak_mem [] rfl rfl rfl (okW_cons (ent_lst (E:=TP.E) _ false) (oR (oR (okW_cons (ent_lst (E:=TP.E) _ false) (oR (oR okW_nil)))))) okB_nil')
 ·refine iq (intA (a.length:Int)) rfl ?_
  refine imp ex_i64_b ?_
  refine mapInr_b fun i e0=> ?_
  exact fun hg=>L243_1_ok n a b c3 (a.length:Int) R (fun r e=>hR r (e0.trans (congrArg Sum.inr e))) n _ hg (weak_mem [] rfl rfl rfl (okW_cons (ent_lst (E:=TP.E) _ false) (oR (oR (oR (oR okW_nil))))) okB_nil')
theorem L243_0_ok (n:Nat) (a:List TP) (b c3:Int) {t:ρ243} (R:AV→Mem→Prop) (hR:∀r:ρ243,t=r→∀u m,Ans ((intA r)) u m→R u m) (k:Nat) (x:Int) (hx:iterO (fun y:Int=>S243_0 n a b c3 y) k x=some t) {s:St} (hw:Weak KK 84 0 s (h243_0 (lstA TP.E a) b c3 (lstA TP.E a) c3 x [])):Tri pg KK 84 0 (.loop c243_0) s (q243_0 R):=
 L243_0 R (σ:=Nat×(Int)) (fun z=>iterO (fun y:Int=>S243_0 n a b c3 y) z.1 z.2=some t) (fun z=>(lstA TP.E a)) (fun z=>b) (fun z=>c3) (fun z=>(lstA TP.E a)) (fun z=>c3) (fun z=>z.2) (fun z=>[]) (fun z=>z.1) (by
  rintro ⟨k,y⟩ h
  cases k with
  |zero=>exact (iterO_zero h).elim
  |succ k=>
   obtain ⟨u,c,d,f⟩:=iterO_elim h
   exact B243_0_ok n a b c3 y R _ (fun r e=>hR r (f _ e).symm) (fun y' e s' hw=>⟨(k,y'),d _ e,Nat.lt_succ_self k,hw⟩) c) (k,x) hx hw
theorem g243_ok (n:Nat) (a:List TP) {t:ρ243} (R:AV→Mem→Prop) (hR:∀r:ρ243,t=r→∀u m,Ans ((intA r)) u m→R u m):g243 n a=some t→F243 (lstA TP.E a) R:=by
 unfold g243 F243
 refine iq (intA (a.length:Int)) rfl ?_
 refine imp ex_i64_b ?_
 refine cond_b (fun _=> ?_) (fun _=> ?_)
 ·exact rt1 hR rfl rfl
 ·refine cond_b (fun _=> ?_) (fun _=> ?_)
  ·exact rt1 hR rfl rfl
  ·refine iq (intA (a.length:Int)) rfl ?_
   refine imp ex_i64_b ?_
   exact fun hg=>L243_0_ok n a (0) (a.length:Int) R hR n _ hg (weak_mem [] rfl rfl rfl (okW_cons (ent_lst (E:=TP.E) _ false) (oR (oR (okW_cons (ent_lst (E:=TP.E) _ false) (oR (oR okW_nil)))))) okB_nil')
theorem sg243 {n:Nat} {a:List TP} {t:ρ243} (h:g243 n a=some t):Says pg KK.gl 243 [lstA TP.E a] ((intA t)):=
 says_of_own (by first|rfl|simp [cleans,clean,encs_clean,En.cln]) (by first|rfl|simp [cleans,clean,encs_clean,En.cln]) (F243_own (lstA TP.E a) _ (g243_ok n a (Ans ((intA t))) (fun r e u m h=>by rw [e];exact h) h))
/- skyway/volume.Check -/
theorem g173_ok (n:Nat) (a:TVolume) {t:ρ173} (R:AV→Mem→Prop) (hR:∀r:ρ173,t=r→∀u m,Ans ((intA r)) u m→R u m):g173 n a=some t→F173 (lstA TP.E a.Area) a.Low a.High R:=by
 unfold g173 F173
 refine imp (chk_of rfl) ?_
 refine bind_b fun c b=> ?_
 refine imp (callQ_says (sg243 b)) ?_
 refine imp ex_i64_b ?_
 refine cond_b (fun _=> ?_) (fun _=> ?_)
 ·exact rt1 hR rfl rfl
 ·refine cond_b (fun _=> ?_) (fun _=> ?_)
  ·exact rt1 hR rfl rfl
  ·refine cond_b (fun _=> ?_) (fun _=> ?_)
   ·exact rt1 hR rfl rfl
   ·refine cond_b (fun _=> ?_) (fun _=> ?_)
    ·exact rt1 hR rfl rfl
    ·exact rt1 hR rfl rfl
theorem sg173 {n:Nat} {a:TVolume} {t:ρ173} (h:g173 n a=some t):Says pg KK.gl 173 [AV.agg [lstA TP.E a.Area,intA a.Low,intA a.High]] ((intA t)):=
 says_of_own (by first|rfl|simp [cleans,clean,encs_clean,En.cln]) (by first|rfl|simp [cleans,clean,encs_clean,En.cln]) (F173_own (lstA TP.E a.Area) a.Low a.High _ (g173_ok n a (Ans ((intA t))) (fun r e u m h=>by rw [e];exact h) h))
/- skyway/sector.Check$1 -/
theorem g175_ok (n:Nat) (b:TSector) (a:ByteArray) (c:List TVolume) {t:ρ175} (R:AV→Mem→Prop) (hR:∀r:ρ175,t=r→∀u m,Ans ((boolA r)) u m→R u m):g175 n b a c=some t→F175 b.Name (lstA TVolume.E b.Room) (AV.ept [strA a,lstA TVolume.E c] 0) R:=by
 unfold g175 F175
 refine imp (chk_of rfl) ?_
 refine iq (AV.ept [strA a,lstA TVolume.E c] 0) rfl ?_
 refine iq (strA a) rfl ?_
 refine imp exStr_b ?_
 exact rt1 hR rfl rfl
theorem sg175 {n:Nat} {a:TSector} {b:ByteArray} {c:List TVolume} {t:ρ175} (h:g175 n a b c=some t):Says pg KK.gl 175 [AV.agg [strA a.Name,lstA TVolume.E a.Room],AV.ept [strA b,lstA TVolume.E c] 0] ((boolA t)):=
 says_of_own (by first|rfl|simp [cleans,clean,encs_clean,En.cln]) (by first|rfl|simp [cleans,clean,encs_clean,En.cln]) (F175_own a.Name (lstA TVolume.E a.Room) (AV.ept [strA b,lstA TVolume.E c] 0) _ (g175_ok n a b c (Ans ((boolA t))) (fun r e u m h=>by rw [e];exact h) h))
/- slices.IndexFunc[[]skyway/api.Sector,skyway/api.Sector] -/
theorem B179_0_x1_ok (n:Nat) (b:List TSector) (c:ByteArray) (d:List TVolume) (e c7 f:Int) {t:(Int)⊕ρ179} (R:AV→Mem→Prop) (N0:St→Prop) (hR:∀r:ρ179,t=(.inr r)→∀u m,Ans ((intA r)) u m→R u m) (hN0:∀y:Int,t=(.inl y)→∀s':St,Weak KK 19 0 s' (h179_0 (lstA TSector.E b) (AV.fn 175 [AV.ept [strA c,lstA TVolume.E d] 0]) e c7 y [])→N0 s'):S179_0_x1 n b c d e c7 f=some t→B179_0 (lstA TSector.E b) (AV.fn 175 [AV.ept [strA c,lstA TVolume.E d] 0]) e c7 f [] R N0:=by
 unfold S179_0_x1 B179_0
 refine cond_b (fun _=> ?_) (fun _=> ?_)
 ·refine bind_b fun a g=> ?_
  refine iq (AV.ept [strA a.Name,lstA TVolume.E a.Room] 0) (idx_lst (E:=TSector.E) rfl g) ?_
  refine iq (AV.agg [strA a.Name,lstA TVolume.E a.Room]) rfl ?_
  refine imp exA2_b ?_
  refine imp exStr_b ?_
  refine bind_b fun i h=> ?_
  refine imp fnArgs_b ?_
  refine imp (cond_ff rfl) ?_
  refine imp (callW_says (sg175 h)) ?_
  refine imp exB_b ?_
  refine cond_b (fun _=> ?_) (fun _=> ?_)
  ·exact rt1 hR rfl rfl
  ·exact fun hg=>hN0 _ (Option.some.inj hg).symm _ (weak_mem [] rfl rfl rfl (okW_cons (ent_lst (E:=TSector.E) _ false) (okW_cons (ent_clean (leV_refl _) (by simp [clean,cleans,encs_clean])) (oR (oR (oR okW_nil))))) okB_nil')
 ·exact rt1 hR rfl rfl
theorem L179_0_x1_ok (n:Nat) (a:List TSector) (b:ByteArray) (c:List TVolume) (d c7:Int) {t:ρ179} (R:AV→Mem→Prop) (hR:∀r:ρ179,t=r→∀u m,Ans ((intA r)) u m→R u m) (k:Nat) (x:Int) (hx:iterO (fun y:Int=>S179_0_x1 n a b c d c7 y) k x=some t) {s:St} (hw:Weak KK 19 0 s (h179_0 (lstA TSector.E a) (AV.fn 175 [AV.ept [strA b,lstA TVolume.E c] 0]) d c7 x [])):Tri pg KK 19 0 (.loop c179_0) s (q179_0 R):=
 L179_0 R (σ:=Nat×(Int)) (fun z=>iterO (fun y:Int=>S179_0_x1 n a b c d c7 y) z.1 z.2=some t) (fun z=>(lstA TSector.E a)) (fun z=>(AV.fn 175 [AV.ept [strA b,lstA TVolume.E c] 0])) (fun z=>d) (fun z=>c7) (fun z=>z.2) (fun z=>[]) (fun z=>z.1) (by
  rintro ⟨k,y⟩ h
  cases k with
  |zero=>exact (iterO_zero h).elim
  |succ k=>
   obtain ⟨u,f,g,i⟩:=iterO_elim h
   exact B179_0_x1_ok n a b c d c7 y R _ (fun r e=>hR r (i _ e).symm) (fun y' e s' hw=>⟨(k,y'),g _ e,Nat.lt_succ_self k,hw⟩) f) (k,x) hx hw
theorem g179_1_ok (n:Nat) (a:List TSector) (b:ByteArray) (c:List TVolume) {t:ρ179} (R:AV→Mem→Prop) (hR:∀r:ρ179,t=r→∀u m,Ans ((intA r)) u m→R u m):g179_1 n a b c=some t→F179 (lstA TSector.E a) (AV.fn 175 [AV.ept [strA b,lstA TVolume.E c] 0]) R:=by
 unfold g179_1 F179
 refine iq (intA (a.length:Int)) rfl ?_
 refine imp ex_i64_b ?_
 exact fun hg=>L179_0_x1_ok n a b c (0) (a.length:Int) R hR n _ hg (weak_mem [] rfl rfl rfl (okW_cons (ent_lst (E:=TSector.E) _ false) (okW_cons (ent_clean (leV_refl _) (by simp [clean,cleans,encs_clean])) (oR (oR (oR okW_nil))))) okB_nil')
theorem sg179_1 {n:Nat} {a:List TSector} {b:ByteArray} {c:List TVolume} {t:ρ179} (h:g179_1 n a b c=some t):Says pg KK.gl 179 [lstA TSector.E a,AV.fn 175 [AV.ept [strA b,lstA TVolume.E c] 0]] ((intA t)):=
 says_of_own (by first|rfl|simp [cleans,clean,encs_clean,En.cln]) (by first|rfl|simp [cleans,clean,encs_clean,En.cln]) (F179_own (lstA TSector.E a) (AV.fn 175 [AV.ept [strA b,lstA TVolume.E c] 0]) _ (g179_1_ok n a b c (Ans ((intA t))) (fun r e u m h=>by rw [e];exact h) h))
/- slices.ContainsFunc[[]skyway/api.Sector,skyway/api.Sector] -/
theorem g174_ok (n:Nat) (a:List TSector) (b:ByteArray) (c:List TVolume) {t:ρ174} (R:AV→Mem→Prop) (hR:∀r:ρ174,t=r→∀u m,Ans ((boolA r)) u m→R u m):g174 n a b c=some t→F174 (lstA TSector.E a) (AV.fn 175 [AV.ept [strA b,lstA TVolume.E c] 0]) R:=by
 unfold g174 F174
 refine bind_b fun e d=> ?_
 refine imp (callQ_says (sg179_1 d)) ?_
 refine imp ex_i64_b ?_
 exact rt1 hR rfl rfl
theorem sg174 {n:Nat} {a:List TSector} {b:ByteArray} {c:List TVolume} {t:ρ174} (h:g174 n a b c=some t):Says pg KK.gl 174 [lstA TSector.E a,AV.fn 175 [AV.ept [strA b,lstA TVolume.E c] 0]] ((boolA t)):=
 says_of_own (by first|rfl|simp [cleans,clean,encs_clean,En.cln]) (by first|rfl|simp [cleans,clean,encs_clean,En.cln]) (F174_own (lstA TSector.E a) (AV.fn 175 [AV.ept [strA b,lstA TVolume.E c] 0]) _ (g174_ok n a b c (Ans ((boolA t))) (fun r e u m h=>by rw [e];exact h) h))
end Go.Proofs.YtlenkbgeomojnaaGreatDoor
