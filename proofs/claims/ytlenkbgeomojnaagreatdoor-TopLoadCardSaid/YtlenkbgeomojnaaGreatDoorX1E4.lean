/- Plain functional programs out of the program's functions, with proofs that the functions compute them; printed by wip/Ext.lean.txt. -/
import Derived.Test.YtlenkbgeomojnaaGreatDoorX1E3
set_option linter.unusedVariables false
set_option linter.unusedSimpArgs false
set_option maxRecDepth 100000
set_option maxHeartbeats 4000000
namespace Go.Proofs.YtlenkbgeomojnaaGreatDoor
/- skyway/load.checkSpan -/
theorem g38_ok (n:Nat) (a:TSpan) {t:ρ38} (R:AV→Mem→Prop) (hR:∀r:ρ38,t=r→∀u m,Ans ((intA r)) u m→R u m):g38 n a=some t→F38 a.From a.To R:=by
 unfold g38 F38
 refine cond_b (fun _=> ?_) (fun _=> ?_)
 ·exact rt1 hR rfl rfl
 ·refine cond_b (fun _=> ?_) (fun _=> ?_)
  ·exact rt1 hR rfl rfl
  ·refine cond_b (fun _=> ?_) (fun _=> ?_)
   ·exact rt1 hR rfl rfl
   ·refine cond_b (fun _=> ?_) (fun _=> ?_)
    ·exact rt1 hR rfl rfl
    ·exact rt1 hR rfl rfl
theorem sg38 {n:Nat} {a:TSpan} {t:ρ38} (h:g38 n a=some t):Says pg KK.gl 38 [AV.agg [intA a.From,intA a.To]] ((intA t)):=
 says_of_own (by first|rfl|simp [cleans,clean,encs_clean,En.cln]) (by first|rfl|simp [cleans,clean,encs_clean,En.cln]) (F38_own a.From a.To _ (g38_ok n a (Ans ((intA t))) (fun r e u m h=>by rw [e];exact h) h))
/- skyway/load.count -/
theorem B40_0_ok (n:Nat) (d:List TSector) (e c7:Int) (f:List (List TTubeNode)) (g h j:Int) (a:List Int) {t:(Int×Int×List Int)⊕ρ40} (R:AV→Mem→Prop) (N0:St→Prop) (hR:∀r:ρ40,t=(.inr r)→∀u m,Ans ((AV.tup [lstA intE r.1,intA r.2])) u m→R u m) (hN0:∀y:Int×Int×List Int,t=(.inl y)→∀s':St,Weak KK 53 0 s' (h40_0 (lstA TSector.E d) e AV.nils c7 (blkV intE 90000 y.2.2) y.1 (lstA (lstE TTubeNode.E) f) g y.2.1 [(90000,some ⟨encs intE y.2.2,3⟩)])→N0 s'):S40_0 n d e c7 f g h j a=some t→B40_0 (lstA TSector.E d) e AV.nils c7 (blkV intE 90000 a) h (lstA (lstE TTubeNode.E) f) g j [(90000,some ⟨encs intE a,3⟩)] R N0:=by
 unfold S40_0 B40_0
 refine cond_b (fun _=> ?_) (fun _=> ?_)
 ·refine bind_b fun k s=> ?_
  refine iq (AV.ept [lstA TTubeNode.E k] 0) (idx_lst (E:=(lstE TTubeNode.E)) rfl s) ?_
  refine iq (lstA TTubeNode.E k) rfl ?_
  refine bind_b fun x v=> ?_
  refine imp (callQ_says (sg71 v)) ?_
  refine imp exT2_b ?_
  refine imp exA6_b ?_
  iterate 7 refine imp ex_i64_b ?_
  refine cond_b (fun _=> ?_) (fun _=> ?_)
  ·exact fun hg=>hN0 _ (Option.some.inj hg).symm _ (weak_mem [(90000,90000)] rfl rfl rfl (okW_cons (ent_lst (E:=TSector.E) _ false) (oR (oR (oR (okW_cons (ent_blk (E:=intE) (id:=90000) (l':=a) rfl rfl) (oR (okW_cons (ent_lst (E:=(lstE TTubeNode.E)) _ false) (oR (oR okW_nil))))))))) (okB_cons (okB_cells (cs:=encs intE a) (ty:=3) (encs_clean _) (show mget _ 90000=_ from (by first|rfl|(simp (disch:=first|decide|assumption) only [lk])))) okB_nil'))
  ·refine bind_b fun b w=> ?_
   refine imp (callQ_says (sg112 w)) ?_
   refine imp ex_i64_b ?_
   refine cond_b (fun _=> ?_) (fun _=> ?_)
   ·refine bind_b fun c p=> ?_
    refine iq (AV.ptr 90000 (((b:Int).toNat)*1+0)) (idx_blk (E:=intE) rfl p) ?_
    refine iq (intA c) (ldS_blk (E:=intE) (l:=a) (ty:=3) (o:=0) (by first|rfl|(simp (disch:=first|decide|assumption) only [lk])) (getI_some p).2 rfl (by decide) rfl) ?_
    refine imp ex_i64_b ?_
    refine bind_b fun z q=> ?_
    refine iq (AV.ptr 90000 (((b:Int).toNat)*1+0)) (idx_blk (E:=intE) rfl q) ?_
    refine imp (storeW_el (E:=intE) (l:=a) (i:=((b:Int).toNat)) (o:=0) (y:=(IntKind.wrap .i64 (c+(1)))) (ty:=3) krE krE rfl (by first|rfl|(simp (disch:=first|decide|assumption) only [lk])) (getI_some q).2 rfl (by decide) rfl) ?_
    exact fun hg=>hN0 _ (Option.some.inj hg).symm _ (weak_mem [(90000,90000)] rfl rfl rfl (okW_cons (ent_lst (E:=TSector.E) _ false) (oR (oR (oR (okW_cons (ent_blk (E:=intE) (id:=90000) (l':=(a.set ((b:Int).toNat) (IntKind.wrap .i64 (c+(1))))) (by first|rfl|omega|(simp;done)|(simp;omega)) rfl) (oR (okW_cons (ent_lst (E:=(lstE TTubeNode.E)) _ false) (oR (oR okW_nil))))))))) (okB_cons (okB_cells (cs:=encs intE (a.set ((b:Int).toNat) (IntKind.wrap .i64 (c+(1))))) (ty:=3) (encs_clean _) (show mget _ 90000=_ from (by first|rfl|(simp (disch:=first|decide|assumption) only [lk])))) okB_nil'))
   ·exact fun hg=>hN0 _ (Option.some.inj hg).symm _ (weak_mem [(90000,90000)] rfl rfl rfl (okW_cons (ent_lst (E:=TSector.E) _ false) (oR (oR (oR (okW_cons (ent_blk (E:=intE) (id:=90000) (l':=a) rfl rfl) (oR (okW_cons (ent_lst (E:=(lstE TTubeNode.E)) _ false) (oR (oR okW_nil))))))))) (okB_cons (okB_cells (cs:=encs intE a) (ty:=3) (encs_clean _) (show mget _ 90000=_ from (by first|rfl|(simp (disch:=first|decide|assumption) only [lk])))) okB_nil'))
 ·exact fun hg=>retN rfl (hR _ (Option.some.inj hg).symm) (fzL_cons (fz_blk (E:=intE) (ty:=3) (l':=a) _ rfl (by first|rfl|(simp (disch:=first|decide|assumption) only [lk]))) (fS fzL_nil))
theorem L40_0_ok (n:Nat) (a:List TSector) (b c7:Int) (c:List (List TTubeNode)) (d:Int) {t:ρ40} (R:AV→Mem→Prop) (hR:∀r:ρ40,t=r→∀u m,Ans ((AV.tup [lstA intE r.1,intA r.2])) u m→R u m) (k:Nat) (x:Int×Int×List Int) (hx:iterO (fun y:Int×Int×List Int=>S40_0 n a b c7 c d y.1 y.2.1 y.2.2) k x=some t) {s:St} (hw:Weak KK 53 0 s (h40_0 (lstA TSector.E a) b AV.nils c7 (blkV intE 90000 x.2.2) x.1 (lstA (lstE TTubeNode.E) c) d x.2.1 [(90000,some ⟨encs intE x.2.2,3⟩)])):Tri pg KK 53 0 (.loop c40_0) s (q40_0 R):=
 L40_0 R (σ:=Nat×(Int×Int×List Int)) (fun z=>iterO (fun y:Int×Int×List Int=>S40_0 n a b c7 c d y.1 y.2.1 y.2.2) z.1 z.2=some t) (fun z=>(lstA TSector.E a)) (fun z=>b) (fun z=>AV.nils) (fun z=>c7) (fun z=>(blkV intE 90000 z.2.2.2)) (fun z=>z.2.1) (fun z=>(lstA (lstE TTubeNode.E) c)) (fun z=>d) (fun z=>z.2.2.1) (fun z=>[(90000,some ⟨encs intE z.2.2.2,3⟩)]) (fun z=>z.1) (by
  rintro ⟨k,y⟩ h
  cases k with
  |zero=>exact (iterO_zero h).elim
  |succ k=>
   obtain ⟨u,f,g,i⟩:=iterO_elim h
   exact B40_0_ok n a b c7 c d y.1 y.2.1 y.2.2 R _ (fun r e=>hR r (i _ e).symm) (fun y' e s' hw=>⟨(k,y'),g _ e,Nat.lt_succ_self k,hw⟩) f) (k,x) hx hw
theorem g40_ok (n:Nat) (b:List TSector) (a:List (List TTubeNode)) (d:Int) {t:ρ40} (R:AV→Mem→Prop) (hR:∀r:ρ40,t=r→∀u m,Ans ((AV.tup [lstA intE r.1,intA r.2])) u m→R u m):g40 n b a d=some t→F40 (lstA TSector.E b) (lstA (lstE TTubeNode.E) a) d R:=by
 unfold g40 F40
 refine iq (intA (b.length:Int)) rfl ?_
 refine imp ex_i64_b ?_
 refine bind_b fun c e=> ?_
 refine imp (opN_of (show _=some ((blkV intE 4 (List.replicate c (0))),[(4,some ⟨encs intE (List.replicate c (0)),3⟩)]) from (mks_ok (E:=intE) (z:=(0)) rfl rfl e))) ?_
 refine iq (intA (a.length:Int)) rfl ?_
 refine imp ex_i64_b ?_
 exact fun hg=>L40_0_ok n b d (0) a (a.length:Int) R hR n _ hg (weak_mem [(90000,4)] rfl rfl rfl (okW_cons (ent_lst (E:=TSector.E) _ false) (oR (oR (oR (okW_cons (ent_blk (E:=intE) (id:=4) (l':=(List.replicate c (0))) rfl rfl) (oR (okW_cons (ent_lst (E:=(lstE TTubeNode.E)) _ false) (oR (oR okW_nil))))))))) (okB_cons (okB_cells (cs:=encs intE (List.replicate c (0))) (ty:=3) (encs_clean _) (show mget _ 4=_ from (by first|rfl|(simp (disch:=first|decide|assumption) only [lk])))) okB_nil'))
theorem sg40 {n:Nat} {a:List TSector} {b:List (List TTubeNode)} {c:Int} {t:ρ40} (h:g40 n a b c=some t):Says pg KK.gl 40 [lstA TSector.E a,lstA (lstE TTubeNode.E) b,intA c] ((AV.tup [lstA intE t.1,intA t.2])):=
 says_of_own (by first|rfl|simp [cleans,clean,encs_clean,En.cln]) (by first|rfl|simp [cleans,clean,encs_clean,En.cln]) (F40_own (lstA TSector.E a) (lstA (lstE TTubeNode.E) b) c _ (g40_ok n a b c (Ans ((AV.tup [lstA intE t.1,intA t.2]))) (fun r e u m h=>by rw [e];exact h) h))
/- skyway/load.Peaks -/
theorem B6_0_0_ok (n:Nat) (h:List TSector) (j:List (List TTubeNode)) (c8 f:Int) (k:List Int) (p d e a:Int) (b c:List Int) {t:(Int×List Int×List Int)⊕((Int×List Int×List Int)⊕ρ6)} (R:AV→Mem→Prop) (N0 N1:St→Prop) (hR:∀r:ρ6,t=(.inr (.inr r))→∀u m,Ans ((AV.tup [lstA intE r.1,lstA intE r.2.1,intA r.2.2])) u m→R u m) (hN0:∀y:Int×List Int×List Int,t=(.inr (.inl y))→∀s':St,Weak KK 80 0 s' (h6_0 (lstA TSector.E h) (lstA (lstE TTubeNode.E) j) AV.nils AV.nils c8 (blkV intE 90000 y.2.1) (ownV intE 90001 y.2.2) y.1 [(90000,some ⟨encs intE y.2.1,3⟩),(90001,ownB intE 3 y.2.2),(0,some ⟨[intA d,intA e],25⟩)])→N0 s') (hN1:∀y:Int×List Int×List Int,t=(.inl y)→∀s':St,Weak KK 80 0 s' (h6_0_0 (lstA TSector.E h) (lstA (lstE TTubeNode.E) j) AV.nils AV.nils c8 (blkV intE 90000 y.2.1) (ownV intE 90001 y.2.2) f (lstA intE k) p y.1 [(90000,some ⟨encs intE y.2.1,3⟩),(90001,ownB intE 3 y.2.2),(0,some ⟨[intA d,intA e],25⟩)])→N1 s'):S6_0_0 n h j c8 f k p d e a b c=some t→B6_0_0 (lstA TSector.E h) (lstA (lstE TTubeNode.E) j) AV.nils AV.nils c8 (blkV intE 90000 b) (ownV intE 90001 c) f (lstA intE k) p a [(90000,some ⟨encs intE b,3⟩),(90001,ownB intE 3 c),(0,some ⟨[intA d,intA e],25⟩)] R N0 N1:=by
 unfold S6_0_0 B6_0_0
 refine cond_b (fun _=> ?_) (fun _=> ?_)
 ·refine bind_b fun q x=> ?_
  refine iq (AV.ept [intA q] 0) (idx_lst (E:=intE) rfl x) ?_
  refine iq (intA q) rfl ?_
  refine imp ex_i64_b ?_
  refine bind_b fun z s=> ?_
  refine iq (AV.ptr 90000 (((a:Int).toNat)*1+0)) (idx_blk (E:=intE) rfl s) ?_
  refine iq (intA z) (ldS_blk (E:=intE) (l:=b) (ty:=3) (o:=0) (by first|rfl|(simp (disch:=first|decide|assumption) only [lk])) (getI_some s).2 rfl (by decide) rfl) ?_
  refine imp ex_i64_b ?_
  refine cond_b (fun _=> ?_) (fun _=> ?_)
  ·refine bind_b fun g aa=> ?_
   refine iq (AV.ept [intA g] 0) (idx_lst (E:=intE) rfl aa) ?_
   refine iq (intA g) rfl ?_
   refine imp ex_i64_b ?_
   refine bind_b fun ab v=> ?_
   refine iq (AV.ptr 90000 (((a:Int).toNat)*1+0)) (idx_blk (E:=intE) rfl v) ?_
   refine imp (storeW_el (E:=intE) (l:=b) (i:=((a:Int).toNat)) (o:=0) (y:=g) (ty:=3) krE krE rfl (by first|rfl|(simp (disch:=first|decide|assumption) only [lk])) (getI_some v).2 rfl (by decide) rfl) ?_
   refine bind_b fun ad w=> ?_
   refine iq (AV.ptr 90001 (((a:Int).toNat)*1+0)) (idx_own (E:=intE) rfl w) ?_
   refine imp (storeW_elO (E:=intE) (l:=c) (i:=((a:Int).toNat)) (o:=0) (y:=f) (ty:=3) krE krE rfl (by first|rfl|(simp (disch:=first|decide|assumption) only [lk])) (getI_some w).2 rfl (by decide) rfl) ?_
   exact fun hg=>hN1 _ (Option.some.inj hg).symm _ (weak_mem [(90000,90000),(90001,90001),(0,0)] rfl rfl rfl (okW_cons (ent_lst (E:=TSector.E) _ false) (okW_cons (ent_lst (E:=(lstE TTubeNode.E)) _ false) (oR (oR (oR (oR (okW_cons (ent_blk (E:=intE) (id:=90000) (l':=(b.set ((a:Int).toNat) g)) (by first|rfl|omega|(simp;done)|(simp;omega)) rfl) (okW_cons (ent_own (E:=intE) (id:=90001) (l':=(c.set ((a:Int).toNat) f)) (by first|rfl|omega|(simp;done)|(simp;omega)) rfl) (oR (okW_cons (ent_lst (E:=intE) _ false) (oR (oR okW_nil)))))))))))) (okB_cons (okB_cells (cs:=encs intE (b.set ((a:Int).toNat) g)) (ty:=3) (encs_clean _) (show mget _ 90000=_ from (by first|rfl|(simp (disch:=first|decide|assumption) only [lk])))) (okB_cons (okB_own (E:=intE) (ty:=3) (l':=(c.set ((a:Int).toNat) f)) rfl (show mget _ 90001=_ from (by first|rfl|(simp (disch:=first|decide|assumption) only [lk])))) (okB_cons (okB_cells (cs:=[intA d,intA e]) (ty:=25) rfl (show mget _ 0=_ from (by first|rfl|(simp (disch:=first|decide|assumption) only [lk])))) okB_nil'))))
  ·exact fun hg=>hN1 _ (Option.some.inj hg).symm _ (weak_mem [(90000,90000),(90001,90001),(0,0)] rfl rfl rfl (okW_cons (ent_lst (E:=TSector.E) _ false) (okW_cons (ent_lst (E:=(lstE TTubeNode.E)) _ false) (oR (oR (oR (oR (okW_cons (ent_blk (E:=intE) (id:=90000) (l':=b) rfl rfl) (okW_cons (ent_own (E:=intE) (id:=90001) (l':=c) rfl rfl) (oR (okW_cons (ent_lst (E:=intE) _ false) (oR (oR okW_nil)))))))))))) (okB_cons (okB_cells (cs:=encs intE b) (ty:=3) (encs_clean _) (show mget _ 90000=_ from (by first|rfl|(simp (disch:=first|decide|assumption) only [lk])))) (okB_cons (okB_own (E:=intE) (ty:=3) (l':=c) rfl (show mget _ 90001=_ from (by first|rfl|(simp (disch:=first|decide|assumption) only [lk])))) (okB_cons (okB_cells (cs:=[intA d,intA e]) (ty:=25) rfl (show mget _ 0=_ from (by first|rfl|(simp (disch:=first|decide|assumption) only [lk])))) okB_nil'))))
 ·exact fun hg=>hN0 _ (Option.some.inj hg).symm _ (weak_mem [(90000,90000),(90001,90001),(0,0)] rfl rfl rfl (okW_cons (ent_lst (E:=TSector.E) _ false) (okW_cons (ent_lst (E:=(lstE TTubeNode.E)) _ false) (oR (oR (oR (oR (okW_cons (ent_blk (E:=intE) (id:=90000) (l':=b) rfl rfl) (okW_cons (ent_own (E:=intE) (id:=90001) (l':=c) rfl rfl) (oR okW_nil))))))))) (okB_cons (okB_cells (cs:=encs intE b) (ty:=3) (encs_clean _) (show mget _ 90000=_ from (by first|rfl|(simp (disch:=first|decide|assumption) only [lk])))) (okB_cons (okB_own (E:=intE) (ty:=3) (l':=c) rfl (show mget _ 90001=_ from (by first|rfl|(simp (disch:=first|decide|assumption) only [lk])))) (okB_cons (okB_cells (cs:=[intA d,intA e]) (ty:=25) rfl (show mget _ 0=_ from (by first|rfl|(simp (disch:=first|decide|assumption) only [lk])))) okB_nil'))))
theorem L6_0_0_ok (n:Nat) (a:List TSector) (b:List (List TTubeNode)) (c8 f:Int) (g:List Int) (i c d:Int) {t:((Int×List Int×List Int)⊕ρ6)} (R:AV→Mem→Prop) (N0:St→Prop) (hR:∀r:ρ6,t=(.inr r)→∀u m,Ans ((AV.tup [lstA intE r.1,lstA intE r.2.1,intA r.2.2])) u m→R u m) (hN0:∀y:Int×List Int×List Int,t=(.inl y)→∀s':St,Weak KK 80 0 s' (h6_0 (lstA TSector.E a) (lstA (lstE TTubeNode.E) b) AV.nils AV.nils c8 (blkV intE 90000 y.2.1) (ownV intE 90001 y.2.2) y.1 [(90000,some ⟨encs intE y.2.1,3⟩),(90001,ownB intE 3 y.2.2),(0,some ⟨[intA c,intA d],25⟩)])→N0 s') (k:Nat) (x:Int×List Int×List Int) (hx:iterO (fun y:Int×List Int×List Int=>S6_0_0 n a b c8 f g i c d y.1 y.2.1 y.2.2) k x=some t) {s:St} (hw:Weak KK 80 0 s (h6_0_0 (lstA TSector.E a) (lstA (lstE TTubeNode.E) b) AV.nils AV.nils c8 (blkV intE 90000 x.2.1) (ownV intE 90001 x.2.2) f (lstA intE g) i x.1 [(90000,some ⟨encs intE x.2.1,3⟩),(90001,ownB intE 3 x.2.2),(0,some ⟨[intA c,intA d],25⟩)])):Tri pg KK 80 0 (.loop c6_0_0) s (q6_0_0 R N0):=
 L6_0_0 R N0 (σ:=Nat×(Int×List Int×List Int)) (fun z=>iterO (fun y:Int×List Int×List Int=>S6_0_0 n a b c8 f g i c d y.1 y.2.1 y.2.2) z.1 z.2=some t) (fun z=>(lstA TSector.E a)) (fun z=>(lstA (lstE TTubeNode.E) b)) (fun z=>AV.nils) (fun z=>AV.nils) (fun z=>c8) (fun z=>(blkV intE 90000 z.2.2.1)) (fun z=>(ownV intE 90001 z.2.2.2)) (fun z=>f) (fun z=>(lstA intE g)) (fun z=>i) (fun z=>z.2.1) (fun z=>[(90000,some ⟨encs intE z.2.2.1,3⟩),(90001,ownB intE 3 z.2.2.2),(0,some ⟨[intA c,intA d],25⟩)]) (fun z=>z.1) (by
  rintro ⟨k,y⟩ h
  cases k with
  |zero=>exact (iterO_zero h).elim
  |succ k=>
   obtain ⟨u,l,o,j⟩:=iterO_elim h
   exact B6_0_0_ok n a b c8 f g i c d y.1 y.2.1 y.2.2 R N0 _ (fun r e=>hR r (j _ e).symm) (fun y' e=>hN0 y' (j _ e).symm) (fun y' e s' hw=>⟨(k,y'),o _ e,Nat.lt_succ_self k,hw⟩) l) (k,x) hx hw
theorem B6_0_ok (n:Nat) (f:List TSector) (g:List (List TTubeNode)) (c8 c a h:Int) (d e:List Int) {t:(Int×List Int×List Int)⊕ρ6} (R:AV→Mem→Prop) (N0:St→Prop) (hR:∀r:ρ6,t=(.inr r)→∀u m,Ans ((AV.tup [lstA intE r.1,lstA intE r.2.1,intA r.2.2])) u m→R u m) (hN0:∀y:Int×List Int×List Int,t=(.inl y)→∀s':St,Weak KK 80 0 s' (h6_0 (lstA TSector.E f) (lstA (lstE TTubeNode.E) g) AV.nils AV.nils c8 (blkV intE 90000 y.2.1) (ownV intE 90001 y.2.2) y.1 [(90000,some ⟨encs intE y.2.1,3⟩),(90001,ownB intE 3 y.2.2),(0,some ⟨[intA c,intA a],25⟩)])→N0 s'):S6_0 n f g c8 c a h d e=some t→B6_0 (lstA TSector.E f) (lstA (lstE TTubeNode.E) g) AV.nils AV.nils c8 (blkV intE 90000 d) (ownV intE 90001 e) h [(90000,some ⟨encs intE d,3⟩),(90001,ownB intE 3 e),(0,some ⟨[intA c,intA a],25⟩)] R N0:=by
 unfold S6_0 B6_0
 refine iq (intA a) (ldS_ptr (b:=⟨[intA c,intA a],25⟩) (by first|rfl|(simp (disch:=first|decide|assumption) only [lk])) rfl) ?_
 refine imp ex_i64_b ?_
 refine cond_b (fun _=> ?_) (fun _=> ?_)
 ·refine bind_b fun i j=> ?_
  refine imp (callW_says (sg40 j)) ?_
  refine imp exT2_b ?_
  refine imp ex_i64_b ?_
  refine iq (intA (i.1.length:Int)) rfl ?_
  refine imp ex_i64_b ?_
  exact fun hg=>L6_0_0_ok n f g c8 h i.1 (i.1.length:Int) c a R N0 hR hN0 n _ hg (weak_mem [(90000,90000),(90001,90001),(0,0)] rfl rfl rfl (okW_cons (ent_lst (E:=TSector.E) _ false) (okW_cons (ent_lst (E:=(lstE TTubeNode.E)) _ false) (oR (oR (oR (oR (okW_cons (ent_blk (E:=intE) (id:=90000) (l':=d) rfl rfl) (okW_cons (ent_own (E:=intE) (id:=90001) (l':=e) rfl rfl) (oR (okW_cons (ent_lst (E:=intE) _ false) (oR (oR okW_nil)))))))))))) (okB_cons (okB_cells (cs:=encs intE d) (ty:=3) (encs_clean _) (show mget _ 90000=_ from (by first|rfl|(simp (disch:=first|decide|assumption) only [lk])))) (okB_cons (okB_own (E:=intE) (ty:=3) (l':=e) rfl (show mget _ 90001=_ from (by first|rfl|(simp (disch:=first|decide|assumption) only [lk])))) (okB_cons (okB_cells (cs:=[intA c,intA a]) (ty:=25) rfl (show mget _ 0=_ from (by first|rfl|(simp (disch:=first|decide|assumption) only [lk])))) okB_nil'))))
 ·exact fun hg=>retN rfl (hR _ (Option.some.inj hg).symm) (fzL_cons (fz_blk (E:=intE) (ty:=3) (l':=d) _ rfl (by first|rfl|(simp (disch:=first|decide|assumption) only [lk]))) (fzL_cons (fz_own (E:=intE) (ty:=3) (l':=e) _ rfl (by first|rfl|(simp (disch:=first|decide|assumption) only [lk]))) (fS fzL_nil)))
theorem L6_0_ok (n:Nat) (a:List TSector) (b:List (List TTubeNode)) (c8 c d:Int) {t:ρ6} (R:AV→Mem→Prop) (hR:∀r:ρ6,t=r→∀u m,Ans ((AV.tup [lstA intE r.1,lstA intE r.2.1,intA r.2.2])) u m→R u m) (k:Nat) (x:Int×List Int×List Int) (hx:iterO (fun y:Int×List Int×List Int=>S6_0 n a b c8 c d y.1 y.2.1 y.2.2) k x=some t) {s:St} (hw:Weak KK 80 0 s (h6_0 (lstA TSector.E a) (lstA (lstE TTubeNode.E) b) AV.nils AV.nils c8 (blkV intE 90000 x.2.1) (ownV intE 90001 x.2.2) x.1 [(90000,some ⟨encs intE x.2.1,3⟩),(90001,ownB intE 3 x.2.2),(0,some ⟨[intA c,intA d],25⟩)])):Tri pg KK 80 0 (.loop c6_0) s (q6_0 R):=
 L6_0 R (σ:=Nat×(Int×List Int×List Int)) (fun z=>iterO (fun y:Int×List Int×List Int=>S6_0 n a b c8 c d y.1 y.2.1 y.2.2) z.1 z.2=some t) (fun z=>(lstA TSector.E a)) (fun z=>(lstA (lstE TTubeNode.E) b)) (fun z=>AV.nils) (fun z=>AV.nils) (fun z=>c8) (fun z=>(blkV intE 90000 z.2.2.1)) (fun z=>(ownV intE 90001 z.2.2.2)) (fun z=>z.2.1) (fun z=>[(90000,some ⟨encs intE z.2.2.1,3⟩),(90001,ownB intE 3 z.2.2.2),(0,some ⟨[intA c,intA d],25⟩)]) (fun z=>z.1) (by
  rintro ⟨k,y⟩ h
  cases k with
  |zero=>exact (iterO_zero h).elim
  |succ k=>
   obtain ⟨u,f,g,i⟩:=iterO_elim h
   exact B6_0_ok n a b c8 c d y.1 y.2.1 y.2.2 R _ (fun r e=>hR r (i _ e).symm) (fun y' e s' hw=>⟨(k,y'),g _ e,Nat.lt_succ_self k,hw⟩) f) (k,x) hx hw
theorem g6_ok (n:Nat) (c:List TSector) (f:List (List TTubeNode)) (a:TSpan) {t:ρ6} (R:AV→Mem→Prop) (hR:∀r:ρ6,t=r→∀u m,Ans ((AV.tup [lstA intE r.1,lstA intE r.2.1,intA r.2.2])) u m→R u m):g6 n c f a=some t→F6 (lstA TSector.E c) (lstA (lstE TTubeNode.E) f) a.From a.To R:=by
 unfold g6 F6
 refine bind_b fun k g=> ?_
 refine imp (callQ_says (sg37 g)) ?_
 refine imp ex_i64_b ?_
 refine cond_b (fun _=> ?_) (fun _=> ?_)
 ·exact fun hg=>retN rfl (hR _ (Option.some.inj hg).symm) (fzL_cons (fz_nils (E:=intE) _) (fzL_cons (fz_nils (E:=intE) _) (fS fzL_nil)))
 ·refine bind_b fun l h=> ?_
  refine imp (callQ_says (sg38 h)) ?_
  refine imp ex_i64_b ?_
  refine cond_b (fun _=> ?_) (fun _=> ?_)
  ·exact fun hg=>retN rfl (hR _ (Option.some.inj hg).symm) (fzL_cons (fz_nils (E:=intE) _) (fzL_cons (fz_nils (E:=intE) _) (fS fzL_nil)))
  ·refine imp (opM_of (show _=some ((intA (c.length:Int)),[]) from rfl)) ?_
   refine imp ex_i64_b ?_
   refine bind_b fun d i=> ?_
   refine imp (opM_of (show _=some ((blkV intE 143 (List.replicate d (0))),[(143,some ⟨encs intE (List.replicate d (0)),3⟩)]) from (mks_ok (E:=intE) (z:=(0)) rfl rfl i))) ?_
   refine imp (opM_of (show _=some ((intA a.From),[]) from (ldS_ptr (b:=⟨[intA a.From,intA a.To],25⟩) (by first|rfl|(rw [look'_mem (by first|rfl|simp [topId_blk]|simp [topId])];first|rfl|(simp (disch:=first|decide|assumption) only [lk]))) rfl))) ?_
   refine imp ex_i64_b ?_
   refine imp (opM_of (show _=some ((blkV intE 146 ([a.From]:List Int)),[(146,some ⟨encs intE ([a.From]:List Int),3⟩)]) from rfl)) ?_
   refine imp (opM_of (show _=some ((intA (c.length:Int)),[]) from rfl)) ?_
   refine imp ex_i64_b ?_
   refine bind_b fun e j=> ?_
   refine imp (callF_D [146] (show PureD _ _ _ _ _ _ (ownV intE 149 e) [(146,none),(149,ownB intE 3 e)] from pureD_frz2 rfl (by first|rfl|(rw [look'_mem (by first|rfl|simp [topId_blk]|simp [topId])];first|rfl|(simp (disch:=first|decide|assumption) only [lk]))) (fun _=>rep39 j))) ?_
   refine imp (chk_of krE) ?_
   refine iq (intA a.From) (ldS_ptr (b:=⟨[intA a.From,intA a.To],25⟩) (by first|rfl|(simp (disch:=first|decide|assumption) only [lk])) rfl) ?_
   refine imp ex_i64_b ?_
   exact fun hg=>L6_0_ok n c f (0) a.From a.To R hR n _ hg (weak_mem [(90000,143),(90001,149),(0,0)] rfl rfl rfl (okW_cons (ent_lst (E:=TSector.E) _ false) (okW_cons (ent_lst (E:=(lstE TTubeNode.E)) _ false) (oR (oR (oR (oR (okW_cons (ent_blk (E:=intE) (id:=143) (l':=(List.replicate d (0))) rfl rfl) (okW_cons (ent_own (E:=intE) (id:=149) (l':=e) rfl rfl) (oR okW_nil))))))))) (okB_cons (okB_cells (cs:=encs intE (List.replicate d (0))) (ty:=3) (encs_clean _) (show mget _ 143=_ from (by first|rfl|(simp (disch:=first|decide|assumption) only [lk])))) (okB_cons (okB_own (E:=intE) (ty:=3) (l':=e) rfl (show mget _ 149=_ from (by first|rfl|(simp (disch:=first|decide|assumption) only [lk])))) (okB_cons (okB_cells (cs:=[intA a.From,intA a.To]) (ty:=25) rfl (show mget _ 0=_ from (by first|rfl|(simp (disch:=first|decide|assumption) only [lk])))) okB_nil'))))
theorem sg6 {n:Nat} {b:List TSector} {c:List (List TTubeNode)} {a:TSpan} {t:ρ6} (h:g6 n b c a=some t):Says pg KK.gl 6 [lstA TSector.E b,lstA (lstE TTubeNode.E) c,AV.agg [intA a.From,intA a.To]] ((AV.tup [lstA intE t.1,lstA intE t.2.1,intA t.2.2])):=
 says_of_own (by first|rfl|simp [cleans,clean,encs_clean,En.cln]) (by first|rfl|simp [cleans,clean,encs_clean,En.cln]) (F6_own (lstA TSector.E b) (lstA (lstE TTubeNode.E) c) a.From a.To _ (g6_ok n b c a (Ans ((AV.tup [lstA intE t.1,lstA intE t.2.1,intA t.2.2]))) (fun r e u m h=>by rw [e];exact h) h))
/- skyway/skywaytop.shownPick -/
theorem g7_ok (n:Nat) (a b:Int) {t:ρ7} (R:AV→Mem→Prop) (hR:∀r:ρ7,t=r→∀u m,Ans ((intA r)) u m→R u m):g7 n a b=some t→F7 a b R:=by
 unfold g7 F7
 refine iq (AV.sc (.int .u64 (IntKind.wrap .u64 a))) krE ?_
 refine imp ex_u64_b ?_
 refine iq (AV.sc (.int .u64 (IntKind.wrap .u64 b))) krE ?_
 refine imp ex_u64_b ?_
 refine bind_b fun c d=> ?_
 refine iq (AV.sc (.int .u64 c)) (opA_rem d) ?_
 refine imp ex_u64_b ?_
 refine iq (intA (IntKind.wrap .i64 c)) krE ?_
 refine imp ex_i64_b ?_
 exact rt1 hR rfl rfl
theorem sg7 {n:Nat} {a:Int} {b:Int} {t:ρ7} (h:g7 n a b=some t):Says pg KK.gl 7 [intA a,intA b] ((intA t)):=
 says_of_own (by first|rfl|simp [cleans,clean,encs_clean,En.cln]) (by first|rfl|simp [cleans,clean,encs_clean,En.cln]) (F7_own a b _ (g7_ok n a b (Ans ((intA t))) (fun r e u m h=>by rw [e];exact h) h))
/- skyway/plane.Add -/
theorem g42_ok (n:Nat) (a b:TP) {t:ρ42} (R:AV→Mem→Prop) (hR:∀r:ρ42,t=r→∀u m,Ans ((AV.agg (TP.E.enc r))) u m→R u m):g42 n a b=some t→F42 a.X a.Y b.X b.Y R:=by
 unfold g42 F42
 refine iq (AV.agg [intA (IntKind.wrap .i64 (a.X+b.X)),intA (IntKind.wrap .i64 (a.Y+b.Y))]) rfl ?_
 refine imp (storeW_cells (sz:=2) krE krE rfl rfl (cs:=[intA (0),intA (0)]) (cs':=[intA (IntKind.wrap .i64 (a.X+b.X)),intA (IntKind.wrap .i64 (a.Y+b.Y))]) (ty:=38) (by first|rfl|(simp (disch:=first|decide|assumption) only [lk])) rfl rfl) ?_
 exact fun hg=>ret1 (hR _ (Option.some.inj hg).symm) (fz_el (E:=TP.E) _ (⟨IntKind.wrap .i64 (a.X+b.X),IntKind.wrap .i64 (a.Y+b.Y)⟩:TP))
theorem sg42 {n:Nat} {a:TP} {b:TP} {t:ρ42} (h:g42 n a b=some t):Says pg KK.gl 42 [AV.agg [intA a.X,intA a.Y],AV.agg [intA b.X,intA b.Y]] ((AV.agg (TP.E.enc t))):=
 says_of_own (by first|rfl|simp [cleans,clean,encs_clean,En.cln]) (by first|rfl|simp [cleans,clean,encs_clean,En.cln]) (F42_own a.X a.Y b.X b.Y _ (g42_ok n a b (Ans ((AV.agg (TP.E.enc t)))) (fun r e u m h=>by rw [e];exact h) h))
/- skyway/tube.Shift -/
theorem B8_0_ok (n:Nat) (g c7 p h j a:Int) (e:List TTubeNode) {t:(Int×List TTubeNode)⊕ρ8} (R:AV→Mem→Prop) (N0:St→Prop) (hR:∀r:ρ8,t=(.inr r)→∀u m,Ans ((AV.tup [lstA TTubeNode.E r.1,intA r.2])) u m→R u m) (hN0:∀y:Int×List TTubeNode,t=(.inl y)→∀s':St,Weak KK 81 0 s' (h8_0 g AV.nils c7 (ownV TTubeNode.E 90000 y.2) p y.1 [(90000,ownB TTubeNode.E 129 y.2),(0,some ⟨[intA h,intA j],38⟩)])→N0 s'):S8_0 n g c7 p h j a e=some t→B8_0 g AV.nils c7 (ownV TTubeNode.E 90000 e) p a [(90000,ownB TTubeNode.E 129 e),(0,some ⟨[intA h,intA j],38⟩)] R N0:=by
 unfold S8_0 B8_0
 refine cond_b (fun _=> ?_) (fun _=> ?_)
 ·refine bind_b fun v q=> ?_
  refine imp (opM_of (show _=some ((AV.ptr 90000 (((a:Int).toNat)*6+0)),[]) from (idx_own (E:=TTubeNode.E) rfl q))) ?_
  refine imp (opM_of (show _=some ((AV.ptr 90000 (((a:Int).toNat)*6+0)),[]) from rfl)) ?_
  refine imp (opM_of (show _=some ((AV.ptr 90000 (((a:Int).toNat)*6+1)),[]) from rfl)) ?_
  refine imp (opM_of (show _=some ((AV.agg [intA v.Node_At_X,intA v.Node_At_Y]),[]) from (ldA_blkP (E:=TTubeNode.E) (l:=e) (ty:=129) (o:=1) (own_some (ty:=129) (by first|rfl|(rw [look'_mem (by first|rfl|simp [topId_blk]|simp [topId])];first|rfl|(simp (disch:=first|decide|assumption) only [lk]))) (getI_some q).2) (getI_some q).2 rfl (by decide) rfl))) ?_
  refine imp exA2_b ?_
  iterate 2 refine imp ex_i64_b ?_
  refine imp (opM_of (show _=some ((AV.agg [intA h,intA j]),[]) from (ldA_ptr (b:=⟨[intA h,intA j],38⟩) (by first|rfl|(rw [look'_mem (by first|rfl|simp [topId_blk]|simp [topId])];first|rfl|(simp (disch:=first|decide|assumption) only [lk]))) rfl))) ?_
  refine imp exA2_b ?_
  iterate 2 refine imp ex_i64_b ?_
  refine bind_b fun f z=> ?_
  refine imp (callF_says (sg42 z)) ?_
  refine imp exA2_b ?_
  iterate 2 refine imp ex_i64_b ?_
  refine bind_b fun c w=> ?_
  refine imp (opM_of (show _=some ((AV.ptr 90000 (((a:Int).toNat)*6+0)),[]) from (idx_own (E:=TTubeNode.E) rfl w))) ?_
  refine imp (opM_of (show _=some ((AV.ptr 90000 (((a:Int).toNat)*6+0)),[]) from rfl)) ?_
  refine imp (opM_of (show _=some ((AV.ptr 90000 (((a:Int).toNat)*6+1)),[]) from rfl)) ?_
  refine imp (storeW_partO (E:=TTubeNode.E) (l:=e) (i:=((a:Int).toNat)) (o:=1) (y:=(⟨c.Node_Time,f.X,f.Y,c.Node_Height,c.Radius,c.Band⟩:TTubeNode)) (ty:=129) (sz:=2) krE krE rfl rfl (by first|rfl|(rw [look'_mem (by first|rfl|simp [topId_blk]|simp [topId])];first|rfl|(simp (disch:=first|decide|assumption) only [lk]))) (getI_some w).2 rfl (Nat.le_of_ble_eq_true rfl) rfl) ?_
  refine imp (chk_of krE) ?_
  refine bind_b fun k s=> ?_
  refine iq (AV.ptr 90000 (((a:Int).toNat)*6+0)) (idx_own (E:=TTubeNode.E) (by first|rfl|omega|(simp;done)|(simp;omega)) s) ?_
  refine iq (AV.ptr 90000 (((a:Int).toNat)*6+0)) rfl ?_
  refine iq (AV.ptr 90000 (((a:Int).toNat)*6+0)) rfl ?_
  refine iq (intA k.Node_Time) (ldS_blk (E:=TTubeNode.E) (l:=(e.set ((a:Int).toNat) (⟨c.Node_Time,f.X,f.Y,c.Node_Height,c.Radius,c.Band⟩:TTubeNode))) (ty:=129) (o:=0) (own_some (ty:=129) (by first|rfl|(simp (disch:=first|decide|assumption) only [lk])) (getI_some s).2) (getI_some s).2 rfl (by decide) rfl) ?_
  refine imp ex_i64_b ?_
  refine bind_b fun d x=> ?_
  refine iq (AV.ptr 90000 (((a:Int).toNat)*6+0)) (idx_own (E:=TTubeNode.E) (by first|rfl|omega|(simp;done)|(simp;omega)) x) ?_
  refine iq (AV.ptr 90000 (((a:Int).toNat)*6+0)) rfl ?_
  refine iq (AV.ptr 90000 (((a:Int).toNat)*6+0)) rfl ?_
  refine imp (storeW_elO (E:=TTubeNode.E) (l:=(e.set ((a:Int).toNat) (⟨c.Node_Time,f.X,f.Y,c.Node_Height,c.Radius,c.Band⟩:TTubeNode))) (i:=((a:Int).toNat)) (o:=0) (y:=(⟨IntKind.wrap .i64 (k.Node_Time+g),d.Node_At_X,d.Node_At_Y,d.Node_Height,d.Radius,d.Band⟩:TTubeNode)) (ty:=129) krE krE rfl (by first|rfl|(simp (disch:=first|decide|assumption) only [lk])) (getI_some x).2 rfl (by decide) rfl) ?_
  exact fun hg=>hN0 _ (Option.some.inj hg).symm _ (weak_mem [(90000,90000),(0,0)] rfl rfl rfl (oR (oR (oR (oR (okW_cons (ent_own (E:=TTubeNode.E) (id:=90000) (l':=((e.set ((a:Int).toNat) (⟨c.Node_Time,f.X,f.Y,c.Node_Height,c.Radius,c.Band⟩:TTubeNode)).set ((a:Int).toNat) (⟨IntKind.wrap .i64 (k.Node_Time+g),d.Node_At_X,d.Node_At_Y,d.Node_Height,d.Radius,d.Band⟩:TTubeNode))) (by first|rfl|omega|(simp;done)|(simp;omega)) rfl) (oR (oR okW_nil))))))) (okB_cons (okB_own (E:=TTubeNode.E) (ty:=129) (l':=((e.set ((a:Int).toNat) (⟨c.Node_Time,f.X,f.Y,c.Node_Height,c.Radius,c.Band⟩:TTubeNode)).set ((a:Int).toNat) (⟨IntKind.wrap .i64 (k.Node_Time+g),d.Node_At_X,d.Node_At_Y,d.Node_Height,d.Radius,d.Band⟩:TTubeNode))) rfl (show mget _ 90000=_ from (by first|rfl|(simp (disch:=first|decide|assumption) only [lk])))) (okB_cons (okB_cells (cs:=[intA h,intA j]) (ty:=38) rfl (show mget _ 0=_ from (by first|rfl|(simp (disch:=first|decide|assumption) only [lk])))) okB_nil')))
 ·refine bind_b fun ab aa=> ?_
  refine imp (callQ_pure (pure_snapN (snL_cons (sn_own (E:=TTubeNode.E) (ty:=129) (l':=e) _ TTubeNode.nf rfl (by first|rfl|(simp (disch:=first|decide|assumption) only [lk]))) snL_nil) (sg36 aa) rfl)) ?_
  refine imp ex_i64_b ?_
  refine cond_b (fun _=> ?_) (fun _=> ?_)
  ·exact fun hg=>retN rfl (hR _ (Option.some.inj hg).symm) (fzL_cons (fz_nils (E:=TTubeNode.E) _) (fS fzL_nil))
  ·exact fun hg=>retN rfl (hR _ (Option.some.inj hg).symm) (fzL_cons (fz_own (E:=TTubeNode.E) (ty:=129) (l':=e) _ rfl (by first|rfl|(simp (disch:=first|decide|assumption) only [lk]))) (fS fzL_nil))
theorem L8_0_ok (n:Nat) (a c7 b c d:Int) {t:ρ8} (R:AV→Mem→Prop) (hR:∀r:ρ8,t=r→∀u m,Ans ((AV.tup [lstA TTubeNode.E r.1,intA r.2])) u m→R u m) (k:Nat) (x:Int×List TTubeNode) (hx:iterO (fun y:Int×List TTubeNode=>S8_0 n a c7 b c d y.1 y.2) k x=some t) {s:St} (hw:Weak KK 81 0 s (h8_0 a AV.nils c7 (ownV TTubeNode.E 90000 x.2) b x.1 [(90000,ownB TTubeNode.E 129 x.2),(0,some ⟨[intA c,intA d],38⟩)])):Tri pg KK 81 0 (.loop c8_0) s (q8_0 R):=
 L8_0 R (σ:=Nat×(Int×List TTubeNode)) (fun z=>iterO (fun y:Int×List TTubeNode=>S8_0 n a c7 b c d y.1 y.2) z.1 z.2=some t) (fun z=>a) (fun z=>AV.nils) (fun z=>c7) (fun z=>(ownV TTubeNode.E 90000 z.2.2)) (fun z=>b) (fun z=>z.2.1) (fun z=>[(90000,ownB TTubeNode.E 129 z.2.2),(0,some ⟨[intA c,intA d],38⟩)]) (fun z=>z.1) (by
  rintro ⟨k,y⟩ h
  cases k with
  |zero=>exact (iterO_zero h).elim
  |succ k=>
   obtain ⟨u,f,g,i⟩:=iterO_elim h
   exact B8_0_ok n a c7 b c d y.1 y.2 R _ (fun r e=>hR r (i _ e).symm) (fun y' e s' hw=>⟨(k,y'),g _ e,Nat.lt_succ_self k,hw⟩) f) (k,x) hx hw
theorem g8_ok (n:Nat) (a:List TTubeNode) (b:TP) (c:Int) {t:ρ8} (R:AV→Mem→Prop) (hR:∀r:ρ8,t=r→∀u m,Ans ((AV.tup [lstA TTubeNode.E r.1,intA r.2])) u m→R u m):g8 n a b c=some t→F8 (lstA TTubeNode.E a) b.X b.Y c R:=by
 unfold g8 F8
 refine bind_b fun f d=> ?_
 refine imp (callQ_says (sg36 d)) ?_
 refine imp ex_i64_b ?_
 refine cond_b (fun _=> ?_) (fun _=> ?_)
 ·exact fun hg=>retN rfl (hR _ (Option.some.inj hg).symm) (fzL_cons (fz_nils (E:=TTubeNode.E) _) (fS fzL_nil))
 ·refine cond_b (fun _=> ?_) (fun _=> ?_)
  ·exact fun hg=>retN rfl (hR _ (Option.some.inj hg).symm) (fzL_cons (fz_nils (E:=TTubeNode.E) _) (fS fzL_nil))
  ·refine cond_b (fun _=> ?_) (fun _=> ?_)
   ·exact fun hg=>retN rfl (hR _ (Option.some.inj hg).symm) (fzL_cons (fz_nils (E:=TTubeNode.E) _) (fS fzL_nil))
   ·refine cond_b (fun _=> ?_) (fun _=> ?_)
    ·exact fun hg=>retN rfl (hR _ (Option.some.inj hg).symm) (fzL_cons (fz_nils (E:=TTubeNode.E) _) (fS fzL_nil))
    ·refine cond_b (fun _=> ?_) (fun _=> ?_)
     ·exact fun hg=>retN rfl (hR _ (Option.some.inj hg).symm) (fzL_cons (fz_nils (E:=TTubeNode.E) _) (fS fzL_nil))
     ·refine cond_b (fun _=> ?_) (fun _=> ?_)
      ·exact fun hg=>retN rfl (hR _ (Option.some.inj hg).symm) (fzL_cons (fz_nils (E:=TTubeNode.E) _) (fS fzL_nil))
      ·refine cond_b (fun _=> ?_) (fun _=> ?_)
       ·exact fun hg=>retN rfl (hR _ (Option.some.inj hg).symm) (fzL_cons (fz_nils (E:=TTubeNode.E) _) (fS fzL_nil))
       ·refine bind_b fun g e=> ?_
        refine imp (callW_D (show PureD _ _ _ _ _ _ (ownV TTubeNode.E 98 a) [(98,ownB TTubeNode.E 129 a)] from cloneC41 e)) ?_
        refine imp (opP_of (show _=some ((intA (a.length:Int)),[]) from len_own)) ?_
        refine imp ex_i64_b ?_
        exact fun hg=>L8_0_ok n c (0) (a.length:Int) b.X b.Y R hR n _ hg (weak_mem [(90000,98),(0,0)] rfl rfl rfl (oR (oR (oR (oR (okW_cons (ent_own (E:=TTubeNode.E) (id:=98) (l':=a) rfl rfl) (oR (oR okW_nil))))))) (okB_cons (okB_own (E:=TTubeNode.E) (ty:=129) (l':=a) rfl (show mget _ 98=_ from (by first|rfl|(simp (disch:=first|decide|assumption) only [lk])))) (okB_cons (okB_cells (cs:=[intA b.X,intA b.Y]) (ty:=38) rfl (show mget _ 0=_ from (by first|rfl|(simp (disch:=first|decide|assumption) only [lk])))) okB_nil')))
theorem sg8 {n:Nat} {b:List TTubeNode} {a:TP} {c:Int} {t:ρ8} (h:g8 n b a c=some t):Says pg KK.gl 8 [lstA TTubeNode.E b,AV.agg [intA a.X,intA a.Y],intA c] ((AV.tup [lstA TTubeNode.E t.1,intA t.2])):=
 says_of_own (by first|rfl|simp [cleans,clean,encs_clean,En.cln]) (by first|rfl|simp [cleans,clean,encs_clean,En.cln]) (F8_own (lstA TTubeNode.E b) a.X a.Y c _ (g8_ok n b a c (Ans ((AV.tup [lstA TTubeNode.E t.1,intA t.2]))) (fun r e u m h=>by rw [e];exact h) h))
/- slices.Equal[[]int,int] -/
theorem B9_0_ok (n:Nat) (a b:List Int) (c:Bool) (d e:Int) {t:(Int)⊕ρ9} (R:AV→Mem→Prop) (N0:St→Prop) (hR:∀r:ρ9,t=(.inr r)→∀u m,Ans ((boolA r)) u m→R u m) (hN0:∀y:Int,t=(.inl y)→∀s':St,Weak KK 26 0 s' (h9_0 (lstA intE a) (lstA intE b) c d y [])→N0 s'):S9_0 n a b c d e=some t→B9_0 (lstA intE a) (lstA intE b) c d e [] R N0:=by
 unfold S9_0 B9_0
 refine cond_b (fun _=> ?_) (fun _=> ?_)
 ·refine bind_b fun f h=> ?_
  refine iq (AV.ept [intA f] 0) (idx_lst (E:=intE) rfl h) ?_
  refine iq (intA f) rfl ?_
  refine imp ex_i64_b ?_
  refine bind_b fun g i=> ?_
  refine iq (AV.ept [intA g] 0) (idx_lst (E:=intE) rfl i) ?_
  refine iq (intA g) rfl ?_
  refine imp ex_i64_b ?_
  refine cond_b (fun _=> ?_) (fun _=> ?_)
  ·exact rt1 hR rfl rfl
  ·exact fun hg=>hN0 _ (Option.some.inj hg).symm _ (weak_mem [] rfl rfl rfl (okW_cons (ent_lst (E:=intE) _ false) (okW_cons (ent_lst (E:=intE) _ false) (oR (oR (oR okW_nil))))) okB_nil')
 ·exact rt1 hR rfl rfl
theorem L9_0_ok (n:Nat) (a b:List Int) (c:Bool) (d:Int) {t:ρ9} (R:AV→Mem→Prop) (hR:∀r:ρ9,t=r→∀u m,Ans ((boolA r)) u m→R u m) (k:Nat) (x:Int) (hx:iterO (fun y:Int=>S9_0 n a b c d y) k x=some t) {s:St} (hw:Weak KK 26 0 s (h9_0 (lstA intE a) (lstA intE b) c d x [])):Tri pg KK 26 0 (.loop c9_0) s (q9_0 R):=
 L9_0 R (σ:=Nat×(Int)) (fun z=>iterO (fun y:Int=>S9_0 n a b c d y) z.1 z.2=some t) (fun z=>(lstA intE a)) (fun z=>(lstA intE b)) (fun z=>c) (fun z=>d) (fun z=>z.2) (fun z=>[]) (fun z=>z.1) (by
  rintro ⟨k,y⟩ h
  cases k with
  |zero=>exact (iterO_zero h).elim
  |succ k=>
   obtain ⟨u,f,g,i⟩:=iterO_elim h
   exact B9_0_ok n a b c d y R _ (fun r e=>hR r (i _ e).symm) (fun y' e s' hw=>⟨(k,y'),g _ e,Nat.lt_succ_self k,hw⟩) f) (k,x) hx hw
theorem g9_ok (n:Nat) (a b:List Int) {t:ρ9} (R:AV→Mem→Prop) (hR:∀r:ρ9,t=r→∀u m,Ans ((boolA r)) u m→R u m):g9 n a b=some t→F9 (lstA intE a) (lstA intE b) R:=by
 unfold g9 F9
 refine iq (intA (a.length:Int)) rfl ?_
 refine imp ex_i64_b ?_
 refine iq (intA (b.length:Int)) rfl ?_
 refine imp ex_i64_b ?_
 refine cond_b (fun _=> ?_) (fun _=> ?_)
 ·exact rt1 hR rfl rfl
 ·refine iq (intA (a.length:Int)) rfl ?_
  refine imp ex_i64_b ?_
  exact fun hg=>L9_0_ok n a b false (a.length:Int) R hR n _ hg (weak_mem [] rfl rfl rfl (okW_cons (ent_lst (E:=intE) _ false) (okW_cons (ent_lst (E:=intE) _ false) (oR (oR (oR okW_nil))))) okB_nil')
theorem sg9 {n:Nat} {a:List Int} {b:List Int} {t:ρ9} (h:g9 n a b=some t):Says pg KK.gl 9 [lstA intE a,lstA intE b] ((boolA t)):=
 says_of_own (by first|rfl|simp [cleans,clean,encs_clean,En.cln]) (by first|rfl|simp [cleans,clean,encs_clean,En.cln]) (F9_own (lstA intE a) (lstA intE b) _ (g9_ok n a b (Ans ((boolA t))) (fun r e u m h=>by rw [e];exact h) h))
end Go.Proofs.YtlenkbgeomojnaaGreatDoor
