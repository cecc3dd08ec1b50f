/- Plain functional programs out of the program's functions, with proofs that the functions compute them; printed by wip/Ext.lean.txt. -/
import Derived.Test.YtlenkbgeomojnaaGreatDoorX1E4
import Derived.Test.YtlenkbgeomojnaaGreatDoorShH
set_option linter.unusedVariables false
set_option linter.unusedSimpArgs false
set_option maxRecDepth 100000
set_option maxHeartbeats 4000000
namespace Go.Proofs.YtlenkbgeomojnaaGreatDoor
/- skyway/skywaytop.TopLoad -/
theorem B3_1_ok (n:Nat) (a:Int) (c8:Bool) (b c:List Int) (d e:Int) {t:(Int)⊕ρ3} (R:AV→Mem→Prop) (N0:St→Prop) (hR:∀r:ρ3,t=(.inr r)→∀u m,Ans ((boolA r)) u m→R u m) (hN0:∀y:Int,t=(.inl y)→∀s':St,Weak KK 118 0 s' (h3_1 a c8 (lstA intE b) (lstA intE c) d y [])→N0 s'):S3_1 n a c8 b c d e=some t→B3_1 a c8 (lstA intE b) (lstA intE c) d e [] R N0:=by
 unfold S3_1 B3_1
 refine cond_b (fun _=> ?_) (fun _=> ?_)
 ·refine bind_b fun f h=> ?_
  refine iq (AV.ept [intA f] 0) (idx_lst (E:=intE) rfl h) ?_
  refine iq (intA f) rfl ?_
  refine imp ex_i64_b ?_
  refine bind_b fun g i=> ?_
  refine iq (AV.ept [intA g] 0) (idx_lst (E:=intE) rfl i) ?_
  refine iq (intA g) rfl ?_
  refine imp ex_i64_b ?_
  refine cond_b (fun _=> ?_) (fun _=> ?_)
  ·exact rt1 hR rfl rfl
  ·exact fun hg=>hN0 _ (Option.some.inj hg).symm _ (weak_mem [] rfl rfl rfl (oR (oR (okW_cons (ent_lst (E:=intE) _ false) (okW_cons (ent_lst (E:=intE) _ false) (oR (oR okW_nil)))))) okB_nil')
 ·exact rt1 hR rfl rfl
theorem L3_1_ok (n:Nat) (a:Int) (c8:Bool) (b c:List Int) (d:Int) {t:ρ3} (R:AV→Mem→Prop) (hR:∀r:ρ3,t=r→∀u m,Ans ((boolA r)) u m→R u m) (k:Nat) (x:Int) (hx:iterO (fun y:Int=>S3_1 n a c8 b c d y) k x=some t) {s:St} (hw:Weak KK 118 0 s (h3_1 a c8 (lstA intE b) (lstA intE c) d x [])):Tri pg KK 118 0 (.loop c3_1) s (q3_1 R):=
 L3_1 R (σ:=Nat×(Int)) (fun z=>iterO (fun y:Int=>S3_1 n a c8 b c d y) z.1 z.2=some t) (fun z=>a) (fun z=>c8) (fun z=>(lstA intE b)) (fun z=>(lstA intE c)) (fun z=>d) (fun z=>z.2) (fun z=>[]) (fun z=>z.1) (by
  rintro ⟨k,y⟩ h
  cases k with
  |zero=>exact (iterO_zero h).elim
  |succ k=>
   obtain ⟨u,f,g,i⟩:=iterO_elim h
   exact B3_1_ok n a c8 b c d y R _ (fun r e=>hR r (i _ e).symm) (fun y' e s' hw=>⟨(k,y'),g _ e,Nat.lt_succ_self k,hw⟩) f) (k,x) hx hw
theorem B3_0_ok (n:Nat) (j:List TSector) (h:Int) (c8:Bool) (c9 f:List Int) (k:Int) (l:List (List TTubeNode)) (o c a p:Int) (d:List (List TTubeNode)) {t:(Int×List (List TTubeNode))⊕ρ3} (R:AV→Mem→Prop) (N0:St→Prop) (hR:∀r:ρ3,t=(.inr r)→∀u m,Ans ((boolA r)) u m→R u m) (hN0:∀y:Int×List (List TTubeNode),t=(.inl y)→∀s':St,Weak KK 118 0 s' (h3_0 (lstA TSector.E j) h c8 (lstA intE c9) (lstA intE f) k (ownV (lstE TTubeNode.E) 90000 y.2) (lstA (lstE TTubeNode.E) l) o y.1 [(90000,ownB (lstE TTubeNode.E) 34 y.2),(0,some ⟨[intA c,intA a],25⟩)])→N0 s'):S3_0 n j h c8 c9 f k l o c a p d=some t→B3_0 (lstA TSector.E j) h c8 (lstA intE c9) (lstA intE f) k (ownV (lstE TTubeNode.E) 90000 d) (lstA (lstE TTubeNode.E) l) o p [(90000,ownB (lstE TTubeNode.E) 34 d),(0,some ⟨[intA c,intA a],25⟩)] R N0:=by
 unfold S3_0 B3_0
 refine cond_b (fun _=> ?_) (fun _=> ?_)
 ·refine bind_b fun q s=> ?_
  refine iq (AV.ept [lstA TTubeNode.E q] 0) (idx_lst (E:=(lstE TTubeNode.E)) rfl s) ?_
  refine iq (lstA TTubeNode.E q) rfl ?_
  refine iq (AV.agg [intA (0),intA (0)]) rfl ?_
  refine bind_b fun g v=> ?_
  refine imp (callQ_says (sg8 v)) ?_
  refine imp exT2_b ?_
  refine imp ex_i64_b ?_
  refine cond_b (fun _=> ?_) (fun _=> ?_)
  ·exact rt1 hR rfl rfl
  ·refine imp (opN_of (show _=some ((blkV (lstE TTubeNode.E) 100080 ([g.1]:List (List TTubeNode))),[(100080,some ⟨encs (lstE TTubeNode.E) ([g.1]:List (List TTubeNode)),34⟩)]) from rfl)) ?_
   refine bind_b fun aa w=> ?_
   refine imp (opN_of (show _=some ((ownV (lstE TTubeNode.E) 100081 (d++([g.1]:List (List TTubeNode)))),(appW (lstE TTubeNode.E) 100081 90000 34 d ([g.1]:List (List TTubeNode)))) from (app_own (E:=(lstE TTubeNode.E)) (l':=d) (xs:=([g.1]:List (List TTubeNode))) rfl rfl (cellsOf_blk (E:=(lstE TTubeNode.E)) (ty:=34) rfl rfl (by first|rfl|(simp (disch:=first|decide|assumption) only [lk]))) asE rfl (fun hne=>Eq.trans (by first|rfl|(simp (disch:=first|decide|assumption) only [lk])) (ownB_ne hne)) w))) ?_
   exact fun hg=>hN0 _ (Option.some.inj hg).symm _ (weak_mem [(90000,100081),(0,0)] rfl rfl rfl (okW_cons (ent_lst (E:=TSector.E) _ false) (oR (oR (oR (okW_cons (ent_lst (E:=intE) _ false) (okW_cons (ent_lst (E:=intE) _ false) (oR (okW_cons (ent_own (E:=(lstE TTubeNode.E)) (id:=100081) (l':=(d++([g.1]:List (List TTubeNode)))) rfl rfl) (okW_cons (ent_lst (E:=(lstE TTubeNode.E)) _ false) (oR (oR okW_nil))))))))))) (okB_cons (okB_own (E:=(lstE TTubeNode.E)) (ty:=34) (l':=(d++([g.1]:List (List TTubeNode)))) rfl (show mget _ 100081=_ from (by first|rfl|(simp (disch:=first|decide|assumption) only [lk])))) (okB_cons (okB_cells (cs:=[intA c,intA a]) (ty:=25) rfl (show mget _ 0=_ from (by first|rfl|(simp (disch:=first|decide|assumption) only [lk])))) okB_nil')))
 ·refine iq (intA c) (ldS_ptr (b:=⟨[intA c,intA a],25⟩) (by first|rfl|(simp (disch:=first|decide|assumption) only [lk])) rfl) ?_
  refine imp ex_i64_b ?_
  refine iq (intA a) (ldS_ptr (b:=⟨[intA c,intA a],25⟩) (by first|rfl|(simp (disch:=first|decide|assumption) only [lk])) rfl) ?_
  refine imp ex_i64_b ?_
  refine iq (AV.agg [intA (IntKind.wrap .i64 (c+h)),intA (IntKind.wrap .i64 (a+h))]) rfl ?_
  refine bind_b fun i x=> ?_
  refine imp (callW_D (show PureD _ _ _ _ _ _ (AV.tup [lstA intE i.1,lstA intE i.2.1,intA i.2.2]) [(90000,none)] from (pureD_frzT (E:=(lstE TTubeNode.E)) (id:=90000) (ty:=34) rfl (by first|rfl|(simp (disch:=first|decide|assumption) only [lk])) (frzL_skip frzL_here) (sg6 x)))) ?_
  refine imp exT3_b ?_
  refine imp ex_i64_b ?_
  refine iq (intA a) (ldS_ptr (b:=⟨[intA c,intA a],25⟩) (by first|rfl|(simp (disch:=first|decide|assumption) only [lk])) rfl) ?_
  refine imp ex_i64_b ?_
  refine cond_b (fun _=> ?_) (fun _=> ?_)
  ·exact rt1 hR rfl rfl
  ·refine cond_b (fun _=> ?_) (fun _=> ?_)
   ·exact rt1 hR rfl rfl
   ·refine bind_b fun ab z=> ?_
    refine imp (callQ_says (sg9 z)) ?_
    refine imp exB_b ?_
    refine cond_b (fun _=> ?_) (fun _=> ?_)
    ·exact rt1 hR rfl rfl
    ·refine iq (intA (f.length:Int)) rfl ?_
     refine imp ex_i64_b ?_
     refine iq (intA (i.2.1.length:Int)) rfl ?_
     refine imp ex_i64_b ?_
     refine cond_b (fun _=> ?_) (fun _=> ?_)
     ·exact rt1 hR rfl rfl
     ·refine iq (intA (f.length:Int)) rfl ?_
      refine imp ex_i64_b ?_
      refine mapInr_b fun t0 e0=> ?_
      exact fun hg=>L3_1_ok n h c8 f i.2.1 (f.length:Int) R (fun r e=>hR r (e0.trans (congrArg Sum.inr e))) n _ hg (weak_mem [] rfl rfl rfl (oR (oR (okW_cons (ent_lst (E:=intE) _ false) (okW_cons (ent_lst (E:=intE) _ false) (oR (oR okW_nil)))))) okB_nil')
theorem L3_0_ok (n:Nat) (a:List TSector) (b:Int) (c8:Bool) (c9 c:List Int) (d:Int) (f:List (List TTubeNode)) (g i j:Int) {t:ρ3} (R:AV→Mem→Prop) (hR:∀r:ρ3,t=r→∀u m,Ans ((boolA r)) u m→R u m) (k:Nat) (x:Int×List (List TTubeNode)) (hx:iterO (fun y:Int×List (List TTubeNode)=>S3_0 n a b c8 c9 c d f g i j y.1 y.2) k x=some t) {s:St} (hw:Weak KK 118 0 s (h3_0 (lstA TSector.E a) b c8 (lstA intE c9) (lstA intE c) d (ownV (lstE TTubeNode.E) 90000 x.2) (lstA (lstE TTubeNode.E) f) g x.1 [(90000,ownB (lstE TTubeNode.E) 34 x.2),(0,some ⟨[intA i,intA j],25⟩)])):Tri pg KK 118 0 (.loop c3_0) s (q3_0 R):=
 L3_0 R (σ:=Nat×(Int×List (List TTubeNode))) (fun z=>iterO (fun y:Int×List (List TTubeNode)=>S3_0 n a b c8 c9 c d f g i j y.1 y.2) z.1 z.2=some t) (fun z=>(lstA TSector.E a)) (fun z=>b) (fun z=>c8) (fun z=>(lstA intE c9)) (fun z=>(lstA intE c)) (fun z=>d) (fun z=>(ownV (lstE TTubeNode.E) 90000 z.2.2)) (fun z=>(lstA (lstE TTubeNode.E) f)) (fun z=>g) (fun z=>z.2.1) (fun z=>[(90000,ownB (lstE TTubeNode.E) 34 z.2.2),(0,some ⟨[intA i,intA j],25⟩)]) (fun z=>z.1) (by
  rintro ⟨k,y⟩ h
  cases k with
  |zero=>exact (iterO_zero h).elim
  |succ k=>
   obtain ⟨u,l,o,p⟩:=iterO_elim h
   exact B3_0_ok n a b c8 c9 c d f g i j y.1 y.2 R _ (fun r e=>hR r (p _ e).symm) (fun y' e s' hw=>⟨(k,y'),o _ e,Nat.lt_succ_self k,hw⟩) l) (k,x) hx hw
theorem g3_ok (n:Nat) (d:List TSector) (c:List (List TTubeNode)) (a:TSpan) (f:Int) {t:ρ3} (R:AV→Mem→Prop) (hR:∀r:ρ3,t=r→∀u m,Ans ((boolA r)) u m→R u m):g3 n d c a f=some t→F3 (lstA TSector.E d) (lstA (lstE TTubeNode.E) c) a.From a.To f R:=by
 unfold g3 F3
 refine bind_b fun l g=> ?_
 refine imp (callQ_says (sg4 g)) ?_
 refine imp exB_b ?_
 refine cond_b (fun _=> ?_) (fun _=> ?_)
 ·exact rt1 hR rfl rfl
 ·refine bind_b fun o h=> ?_
  refine imp (callQ_says (sg5 h)) ?_
  refine imp exB_b ?_
  refine cond_b (fun _=> ?_) (fun _=> ?_)
  ·exact rt1 hR rfl rfl
  ·refine bind_b fun e i=> ?_
   refine imp (callW_says (sg6 i)) ?_
   refine imp exT3_b ?_
   refine imp ex_i64_b ?_
   refine cond_b (fun _=> ?_) (fun _=> ?_)
   ·exact rt1 hR rfl rfl
   ·refine iq (intA a.To) (ldS_ptr (b:=⟨[intA a.From,intA a.To],25⟩) (by first|rfl|(simp (disch:=first|decide|assumption) only [lk])) rfl) ?_
    refine imp ex_i64_b ?_
    refine iq (intA a.From) (ldS_ptr (b:=⟨[intA a.From,intA a.To],25⟩) (by first|rfl|(simp (disch:=first|decide|assumption) only [lk])) rfl) ?_
    refine imp ex_i64_b ?_
    refine cond_b (fun _=> ?_) (fun _=> ?_)
    ·exact rt1 hR rfl rfl
    ·refine bind_b fun j k=> ?_
     refine imp (callQ_says (sg7 k)) ?_
     refine imp ex_i64_b ?_
     refine iq (intA (c.length:Int)) rfl ?_
     refine imp ex_i64_b ?_
     exact fun hg=>L3_0_ok n d j false e.1 e.2.1 e.2.2 c (c.length:Int) a.From a.To R hR n _ hg (weak_mem [(90000,89500),(0,0)] rfl rfl rfl (okW_cons (ent_lst (E:=TSector.E) _ false) (oR (oR (oR (okW_cons (ent_lst (E:=intE) _ false) (okW_cons (ent_lst (E:=intE) _ false) (oR (okW_cons ent_nils_own (okW_cons (ent_lst (E:=(lstE TTubeNode.E)) _ false) (oR (oR okW_nil))))))))))) (okB_cons okB_nil (okB_cons (okB_cells (cs:=[intA a.From,intA a.To]) (ty:=25) rfl (show mget _ 0=_ from (by first|rfl|(simp (disch:=first|decide|assumption) only [lk])))) okB_nil')))
theorem sg3 {n:Nat} {b:List TSector} {c:List (List TTubeNode)} {a:TSpan} {d:Int} {t:ρ3} (h:g3 n b c a d=some t):Says pg KK.gl 3 [lstA TSector.E b,lstA (lstE TTubeNode.E) c,AV.agg [intA a.From,intA a.To],intA d] ((boolA t)):=
 says_of_own (by first|rfl|simp [cleans,clean,encs_clean,En.cln]) (by first|rfl|simp [cleans,clean,encs_clean,En.cln]) (F3_own (lstA TSector.E b) (lstA (lstE TTubeNode.E) c) a.From a.To d _ (g3_ok n b c a d (Ans ((boolA t))) (fun r e u m h=>by rw [e];exact h) h))
end Go.Proofs.YtlenkbgeomojnaaGreatDoor
