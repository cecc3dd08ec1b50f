/- Plain functional programs out of the program's functions, with proofs that the functions compute them; printed by wip/Ext.lean.txt. -/
import Derived.Test.YtlenkbgeomojnaaGreatDoorX1G
import Derived.Test.YtlenkbgeomojnaaGreatDoorX1F1
import Derived.Test.YtlenkbgeomojnaaGreatDoorX1F2
import Derived.Test.YtlenkbgeomojnaaGreatDoorX1F3
import Derived.Test.YtlenkbgeomojnaaGreatDoorX1S
set_option linter.unusedVariables false
set_option linter.unusedSimpArgs false
set_option maxRecDepth 100000
set_option maxHeartbeats 4000000
namespace Go.Proofs.YtlenkbgeomojnaaGreatDoor
theorem cloneC41 {n:Nat} {look:Nat→Option ABlk} {l:List TTubeNode} {u:Unit} (h:roomO l.length 48=some u):PureD pg KK.gl look n 41 [lstA TTubeNode.E l] (ownV TTubeNode.E n l) [(n,ownB TTubeNode.E 129 l)]:=
 made_ownC (by simp [cleans,clean,encs_clean]) (F41_own _ _ (by
  unfold F41
  exact clone_ok (E:=TTubeNode.E) rfl rfl h))
noncomputable def J212 (c:Int) (d:AV) (m:Mem) (R:AV→Mem→Prop) (e f:Int) (a:AV):Prop:=
opP (opA pg (.slice 34 (.tmp 0) (some (.tmp 1)) none none) 34 [a,AV.sc (.int .i64 f)] (mget m) 102) fun g=>
opN (opA pg (.call ⟨.builtin .copy,#[.tmp 0,.tmp 1],#[34,33]⟩) 3 [g,d] (mget m) 104) m fun h b=>
ex_i64 h fun l=>
opP (opA pg (.slice 34 (.tmp 0) (some (.tmp 1)) none none) 34 [a,AV.sc (.int .i64 c)] (mget b) 107) fun i=>
callW pg KK.gl b 109 273 [i,AV.sc (.int .i64 e)] fun j k=>
exT0 j<|
retL R k [some a]
noncomputable def J212n (d:AV) (a:Int) (f:AV) (m:Mem) (R:AV→Mem→Prop) (c g:Int):Prop:=
opP (opA pg (.call ⟨.builtin .cap,#[.tmp 0],#[34]⟩) 3 [d] (mget m) 20) fun p=>
ex_i64 p fun q=>
bif (decide ((IntKind.wrap .i64 (g+c))>q)) then (
opP (opA pg (.slice 34 (.tmp 0) none (some (.tmp 1)) none) 34 [d,AV.sc (.int .i64 a)] (mget m) 24) fun r=>
opN (opA pg (.call ⟨.builtin .append,#[.tmp 0,.tmp 1],#[34,3]⟩) 34 [r,AV.sc (.int .i64 (IntKind.wrap .i64 ((IntKind.wrap .i64 (g+c))-a)))] (mget m) 30) m fun e i=>
opP (opA pg (.slice 34 (.tmp 0) (some (.tmp 1)) none none) 34 [e,AV.sc (.int .i64 a)] (mget i) 34) fun s=>
opN (opA pg (.call ⟨.builtin .copy,#[.tmp 0,.tmp 1],#[34,33]⟩) 3 [s,f] (mget i) 36) i fun t h=>
ex_i64 t fun ai=>
opM (opA pg (.slice 34 (.tmp 0) (some (.tmp 1)) none none) 34 [e,AV.sc (.int .i64 (IntKind.wrap .i64 (a+c)))] (look' h (topId e++(topId (AV.sc (.int .i64 (IntKind.wrap .i64 (a+c))))++([])))) 41) fun j d13=>
opM (opA pg (.slice 34 (.tmp 0) (some (.tmp 1)) none none) 34 [d,AV.sc (.int .i64 a)] (look' (mpushs h d13) (topId d++(topId (AV.sc (.int .i64 a))++([])))) 44) fun k d14=>
opM (opA pg (.call ⟨.builtin .copy,#[.tmp 0,.tmp 1],#[34,34]⟩) 3 [j,k] (look' (mpushs (mpushs h d13) d14) (topId j++(topId k++([])))) 45) fun u d15=>
ex_i64 u fun aj=>
chk (confOk [0,0,0,6,15,0,0,96,255] [⟨[],[]⟩,⟨[],[]⟩,⟨[],[]⟩,⟨[],[]⟩,⟨d13,topId e++(topId (AV.sc (.int .i64 (IntKind.wrap .i64 (a+c))))++([]))⟩,⟨[],[]⟩,⟨[],[]⟩,⟨d14,topId d++(topId (AV.sc (.int .i64 a))++([]))⟩,⟨d15,topId j++(topId k++([]))⟩]) (retL R (mpushs (mpushs (mpushs h d13) d14) d15) [some e])) else (
opP (opA pg (.slice 34 (.tmp 0) none (some (.tmp 1)) none) 34 [d,AV.sc (.int .i64 (IntKind.wrap .i64 (g+c)))] (mget m) 26) fun b=>
opP (opA pg (.slice 34 (.tmp 0) (some (.tmp 1)) none none) 34 [b,AV.sc (.int .i64 (IntKind.wrap .i64 (a+c)))] (mget m) 33) fun v=>
callQ pg KK.gl m 272 [f,v] fun w=>
exB w fun x=>
bif (!x) then (
opM (opA pg (.slice 34 (.tmp 0) (some (.tmp 1)) none none) 34 [b,AV.sc (.int .i64 (IntKind.wrap .i64 (a+c)))] (look' m (topId b++(topId (AV.sc (.int .i64 (IntKind.wrap .i64 (a+c))))++([])))) 103) fun l d21=>
opM (opA pg (.slice 34 (.tmp 0) (some (.tmp 1)) none none) 34 [b,AV.sc (.int .i64 a)] (look' (mpushs m d21) (topId b++(topId (AV.sc (.int .i64 a))++([])))) 106) fun n d22=>
opM (opA pg (.call ⟨.builtin .copy,#[.tmp 0,.tmp 1],#[34,34]⟩) 3 [l,n] (look' (mpushs (mpushs m d21) d22) (topId l++(topId n++([])))) 107) fun y d23=>
ex_i64 y fun ak=>
chk (confOk [0,0,0,6,15,0,0,96,255] [⟨[],[]⟩,⟨[],[]⟩,⟨[],[]⟩,⟨[],[]⟩,⟨d21,topId b++(topId (AV.sc (.int .i64 (IntKind.wrap .i64 (a+c))))++([]))⟩,⟨[],[]⟩,⟨[],[]⟩,⟨d22,topId b++(topId (AV.sc (.int .i64 a))++([]))⟩,⟨d23,topId l++(topId n++([]))⟩]) (opP (opA pg (.slice 34 (.tmp 0) (some (.tmp 1)) none none) 34 [b,AV.sc (.int .i64 a)] (mget (mpushs (mpushs (mpushs m d21) d22) d23)) 110) fun z=>
opN (opA pg (.call ⟨.builtin .copy,#[.tmp 0,.tmp 1],#[34,33]⟩) 3 [z,f] (mget (mpushs (mpushs (mpushs m d21) d22) d23)) 112) (mpushs (mpushs (mpushs m d21) d22) d23) fun aa ab=>
ex_i64 aa fun al=>
retL R ab [some b])) else (
opP (opA pg (.slice 34 (.tmp 0) (some (.tmp 1)) none none) 34 [b,AV.sc (.int .i64 g)] (mget m) 101) fun ad=>
opN (opA pg (.call ⟨.builtin .copy,#[.tmp 0,.tmp 1],#[34,33]⟩) 3 [ad,f] (mget m) 103) m fun ae o=>
ex_i64 ae fun am=>
opP (opA pg (.slice 34 (.tmp 0) (some (.tmp 1)) none none) 34 [b,AV.sc (.int .i64 a)] (mget o) 106) fun af=>
callW pg KK.gl o 108 273 [af,AV.sc (.int .i64 c)] fun ag ah=>
exT0 ag<|
retL R ah [some b]))
theorem J212_eq (c:AV) (a:Int) (b:AV) (m:Mem) (R:AV→Mem→Prop):insTxt pg KK.gl 34 3 129 6 48 272 [AV.sc (.int .i64 (0)),AV.sc (.int .i64 (0)),AV.sc (.int .i64 (0)),AV.sc (.int .i64 (0)),AV.sc (.int .i64 (0)),AV.sc (.int .i64 (0))] (J212 a b m R) c a b m R=F212n2 c a b m R:=by kernel_rfl
theorem J212n_eq (a:AV) (b:Int) (c:AV) (m:Mem) (R:AV→Mem→Prop):insTxt1 pg 34 129 6 48 [AV.sc (.int .i64 (0)),AV.sc (.int .i64 (0)),AV.sc (.int .i64 (0)),AV.sc (.int .i64 (0)),AV.sc (.int .i64 (0)),AV.sc (.int .i64 (0))] (J212n a b c m R) a b c m R=F212n1 a b c m R:=by kernel_rfl
theorem over212:OverF pg 272 33 4:=⟨⟨Tryz.f272,Tryz.func272,by kernel_rfl,by kernel_rfl,by kernel_rfl,by kernel_rfl⟩,⟨129,_,by kernel_rfl,run_size (n:=(tsize pg 129).getD 0) krE⟩⟩
theorem insa212 {l xs:List TTubeNode} {C k:Nat} (hC:l.length≤C) (hCm:C≤maxLen) (hne:l≠[]) (hx:xs≠[]) (hk:k≤l.length) (d:(l.length+xs.length)*48≤140737488355328) (g:l.length+xs.length≤4611686018427387904) (a:AV) (ha0:a=.sl 0 0 TTubeNode.E.size l.length C true) (b:Int) (ha1:b=(k:Int)) (c:AV) (ha2:c=.sl 1 0 TTubeNode.E.size xs.length xs.length false) (m:Mem) (hm:m=[(0,some ⟨encs TTubeNode.E l++List.replicate ((C-l.length)*TTubeNode.E.size) .und,129⟩),(1,some ⟨encs TTubeNode.E xs,129⟩)]):F212n2 a b c m (MutO TTubeNode.E 129 (l.take k++xs++l.drop k)):=by
 rw [← J212_eq]
 exact insert_ok (P:=pg) (gl:=KK.gl) (E:=TTubeNode.E) (t:=34) (e:=129) (sz:=6) (by_:=48) (fo:=272) (ty2:=129) (i:=k) (zs:=[AV.sc (.int .i64 (0)),AV.sc (.int .i64 (0)),AV.sc (.int .i64 (0)),AV.sc (.int .i64 (0)),AV.sc (.int .i64 (0)),AV.sc (.int .i64 (0))]) (l:=l) (xs:=xs) (C:=C) (f:=0) (nt:=0) (kk:=.i64) krE krE krE krE rfl rfl krE over212 hC hCm hne hx hk d g (MutO TTubeNode.E 129 (l.take k++xs++l.drop k)) (fun _ _ h=>h) m hm a ha0 b ha1 c ha2 _
theorem insb212 {xs:List TTubeNode} (hx:xs≠[]) (d:(0+xs.length)*48≤140737488355328) (e:0+xs.length≤4611686018427387904) (a:AV) (ha0:a=.lst 0 [] true) (b:Int) (ha1:b=0) (c:AV) (ha2:c=.sl 0 0 TTubeNode.E.size xs.length xs.length false) (m:Mem) (hm:m=[(0,some ⟨encs TTubeNode.E xs,129⟩)]):F212n1 a b c m (MutO TTubeNode.E 129 xs):=by
 rw [← J212n_eq]
 exact insert_nil_ok krE krE rfl rfl hx d e _ (fun _ _ h=>h) m hm a ha0 b ha1 c ha2 _
theorem ins212 {n id wid:Nat} {look:Nat→Option ABlk} {l0 l xs0 xs y:List TTubeNode} {i:Int} (hl:l0.length=l.length) (hb:look id=ownB TTubeNode.E 129 l) (hl2:xs0.length=xs.length) (hb2:look wid=some ⟨encs TTubeNode.E xs,129⟩) (hid:id≠wid) (h:insO 48 l i xs=some y):PureD pg KK.gl look n 212 [ownV TTubeNode.E id l0,intA i,blkV TTubeNode.E wid xs0] (ownV TTubeNode.E n y) [(n,ownB TTubeNode.E 129 y),(wid,none),(id,none)]:=
 ins_mk (fun _=>rfl) hl hb hl2 hb2 hid h (fun C k hC hCm hne hx hk a b=>F212n2_call _ _ _ _ _ (insa212 hC hCm hne hx hk a b _ rfl _ rfl _ rfl _ rfl)) (fun hx a b=>F212n1_call _ _ _ _ _ (insb212 hx a b _ rfl _ rfl _ rfl _ rfl))
theorem repC39_0 (v:Int):repV pg KK 60 39 [lstA intE [v],intA ((0:Nat):Int)]=some (true,0,1,0,0,encs intE (List.replicate 0 v),3):=by kernel_rfl
theorem repC39_1 (v:Int):repV pg KK 60 39 [lstA intE [v],intA ((1:Nat):Int)]=some (true,0,1,1,1,encs intE (List.replicate 1 v),3):=by kernel_rfl
theorem repC39_2 (v:Int):repV pg KK 60 39 [lstA intE [v],intA ((2:Nat):Int)]=some (true,0,1,2,2,encs intE (List.replicate 2 v),3):=by kernel_rfl
theorem repC39_3 (v:Int):repV pg KK 60 39 [lstA intE [v],intA ((3:Nat):Int)]=some (true,0,1,3,3,encs intE (List.replicate 3 v),3):=by kernel_rfl
theorem repC39_4 (v:Int):repV pg KK 60 39 [lstA intE [v],intA ((4:Nat):Int)]=some (true,0,1,4,4,encs intE (List.replicate 4 v),3):=by kernel_rfl
theorem repC39_5 (v:Int):repV pg KK 60 39 [lstA intE [v],intA ((5:Nat):Int)]=some (true,0,1,5,5,encs intE (List.replicate 5 v),3):=by kernel_rfl
theorem repC39_6 (v:Int):repV pg KK 60 39 [lstA intE [v],intA ((6:Nat):Int)]=some (true,0,1,6,6,encs intE (List.replicate 6 v),3):=by kernel_rfl
theorem repC39_7 (v:Int):repV pg KK 60 39 [lstA intE [v],intA ((7:Nat):Int)]=some (true,0,1,7,7,encs intE (List.replicate 7 v),3):=by kernel_rfl
theorem repC39_8 (v:Int):repV pg KK 60 39 [lstA intE [v],intA ((8:Nat):Int)]=some (true,0,1,8,8,encs intE (List.replicate 8 v),3):=by kernel_rfl
theorem repC39_9 (v:Int):repV pg KK 60 39 [lstA intE [v],intA ((9:Nat):Int)]=some (true,0,1,9,9,encs intE (List.replicate 9 v),3):=by kernel_rfl
theorem repC39_10 (v:Int):repV pg KK 60 39 [lstA intE [v],intA ((10:Nat):Int)]=some (true,0,1,10,10,encs intE (List.replicate 10 v),3):=by kernel_rfl
theorem repC39_11 (v:Int):repV pg KK 60 39 [lstA intE [v],intA ((11:Nat):Int)]=some (true,0,1,11,11,encs intE (List.replicate 11 v),3):=by kernel_rfl
theorem repC39_12 (v:Int):repV pg KK 60 39 [lstA intE [v],intA ((12:Nat):Int)]=some (true,0,1,12,12,encs intE (List.replicate 12 v),3):=by kernel_rfl
theorem repC39:∀(k:Nat),k≤12→∀v:Int,repV pg KK 60 39 [lstA intE [v],intA (k:Int)]=some (true,0,1,k,k,encs intE (List.replicate k v),3)
 |0,_,v=>repC39_0 v
 |1,_,v=>repC39_1 v
 |2,_,v=>repC39_2 v
 |3,_,v=>repC39_3 v
 |4,_,v=>repC39_4 v
 |5,_,v=>repC39_5 v
 |6,_,v=>repC39_6 v
 |7,_,v=>repC39_7 v
 |8,_,v=>repC39_8 v
 |9,_,v=>repC39_9 v
 |10,_,v=>repC39_10 v
 |11,_,v=>repC39_11 v
 |12,_,v=>repC39_12 v
 |k+13,h,_=>absurd h (by omega)
theorem rep39 {n:Nat} {look:Nat→Option ABlk} {x y:List Int} {k:Int} (h:repO x k=some y):PureD pg KK.gl look n 39 [lstA intE x,intA k] (ownV intE n y) [(n,ownB intE 3 y)]:=by
 obtain ⟨v,j,rfl,rfl,hj,rfl⟩:=repO_some h
 refine made_ownC (by simp [cleans,clean,encs_clean]) (rep_own fol (repC39 j hj v) (by simp) fun h=> ?_)
 have:j=0:=by simpa using h
 exact ⟨this,rfl⟩
/- skyway/probe.CheckSep -/
theorem g168_ok (n:Nat) (a:TSep) {t:ρ168} (R:AV→Mem→Prop) (hR:∀r:ρ168,t=r→∀u m,Ans ((intA r)) u m→R u m):g168 n a=some t→F168 a.Lateral a.Vertical R:=by
 unfold g168 F168
 refine cond_b (fun _=> ?_) (fun _=> ?_)
 ·exact rt1 hR rfl rfl
 ·refine cond_b (fun _=> ?_) (fun _=> ?_)
  ·exact rt1 hR rfl rfl
  ·refine cond_b (fun _=> ?_) (fun _=> ?_)
   ·exact rt1 hR rfl rfl
   ·refine cond_b (fun _=> ?_) (fun _=> ?_)
    ·exact rt1 hR rfl rfl
    ·exact rt1 hR rfl rfl
theorem sg168 {n:Nat} {a:TSep} {t:ρ168} (h:g168 n a=some t):Says pg KK.gl 168 [AV.agg [intA a.Lateral,intA a.Vertical]] ((intA t)):=
 says_of_own (by first|rfl|simp [cleans,clean,encs_clean,En.cln]) (by first|rfl|simp [cleans,clean,encs_clean,En.cln]) (F168_own a.Lateral a.Vertical _ (g168_ok n a (Ans ((intA t))) (fun r e u m h=>by rw [e];exact h) h))
/- skyway/plane.Check -/
theorem g70_ok (n:Nat) (a:TP) {t:ρ70} (R:AV→Mem→Prop) (hR:∀r:ρ70,t=r→∀u m,Ans ((intA r)) u m→R u m):g70 n a=some t→F70 a.X a.Y R:=by
 unfold g70 F70
 refine cond_b (fun _=> ?_) (fun _=> ?_)
 ·exact rt1 hR rfl rfl
 ·refine cond_b (fun _=> ?_) (fun _=> ?_)
  ·exact rt1 hR rfl rfl
  ·refine cond_b (fun _=> ?_) (fun _=> ?_)
   ·exact rt1 hR rfl rfl
   ·refine cond_b (fun _=> ?_) (fun _=> ?_)
    ·exact rt1 hR rfl rfl
    ·exact rt1 hR rfl rfl
theorem sg70 {n:Nat} {a:TP} {t:ρ70} (h:g70 n a=some t):Says pg KK.gl 70 [AV.agg [intA a.X,intA a.Y]] ((intA t)):=
 says_of_own (by first|rfl|simp [cleans,clean,encs_clean,En.cln]) (by first|rfl|simp [cleans,clean,encs_clean,En.cln]) (F70_own a.X a.Y _ (g70_ok n a (Ans ((intA t))) (fun r e u m h=>by rw [e];exact h) h))
/- skyway/tube.Check -/
theorem B36_0_ok (n:Nat) (c:List TTubeNode) (d e f:Int) {t:(Int)⊕ρ36} (R:AV→Mem→Prop) (N0:St→Prop) (hR:∀r:ρ36,t=(.inr r)→∀u m,Ans ((intA r)) u m→R u m) (hN0:∀y:Int,t=(.inl y)→∀s':St,Weak KK 86 0 s' (h36_0 (lstA TTubeNode.E c) d (lstA TTubeNode.E c) e y [])→N0 s'):S36_0 n c d e f=some t→B36_0 (lstA TTubeNode.E c) d (lstA TTubeNode.E c) e f [] R N0:=by
 unfold S36_0 B36_0
 refine cond_b (fun _=> ?_) (fun _=> ?_)
 ·refine bind_b fun b g=> ?_
  refine iq (AV.ept [intA b.Node_Time,intA b.Node_At_X,intA b.Node_At_Y,intA b.Node_Height,intA b.Radius,intA b.Band] 0) (idx_lst (E:=TTubeNode.E) rfl g) ?_
  refine iq (AV.agg [intA b.Node_Time,intA b.Node_At_X,intA b.Node_At_Y,intA b.Node_Height,intA b.Radius,intA b.Band]) rfl ?_
  refine imp exA6_b ?_
  iterate 6 refine imp ex_i64_b ?_
  refine cond_b (fun _=> ?_) (fun _=> ?_)
  ·exact rt1 hR rfl rfl
  ·refine cond_b (fun _=> ?_) (fun _=> ?_)
   ·exact rt1 hR rfl rfl
   ·refine cond_b (fun _=> ?_) (fun _=> ?_)
    ·refine bind_b fun a h=> ?_
     refine iq (AV.ept [intA a.Node_Time,intA a.Node_At_X,intA a.Node_At_Y,intA a.Node_Height,intA a.Radius,intA a.Band] 0) (idx_lst (E:=TTubeNode.E) rfl h) ?_
     refine iq (AV.ept [intA a.Node_Time,intA a.Node_At_X,intA a.Node_At_Y,intA a.Node_Height,intA a.Radius,intA a.Band] 0) rfl ?_
     refine iq (AV.ept [intA a.Node_Time,intA a.Node_At_X,intA a.Node_At_Y,intA a.Node_Height,intA a.Radius,intA a.Band] 0) rfl ?_
     refine iq (intA a.Node_Time) rfl ?_
     refine imp ex_i64_b ?_
     refine cond_b (fun _=> ?_) (fun _=> ?_)
     ·exact rt1 hR rfl rfl
     ·refine bind_b fun k i=> ?_
      refine imp (callQ_says (sg70 i)) ?_
      refine imp ex_i64_b ?_
      refine cond_b (fun _=> ?_) (fun _=> ?_)
      ·exact rt1 hR rfl rfl
      ·refine cond_b (fun _=> ?_) (fun _=> ?_)
       ·exact rt1 hR rfl rfl
       ·refine cond_b (fun _=> ?_) (fun _=> ?_)
        ·exact rt1 hR rfl rfl
        ·refine cond_b (fun _=> ?_) (fun _=> ?_)
         ·exact rt1 hR rfl rfl
         ·refine cond_b (fun _=> ?_) (fun _=> ?_)
          ·exact rt1 hR rfl rfl
          ·refine cond_b (fun _=> ?_) (fun _=> ?_)
           ·exact rt1 hR rfl rfl
           ·refine cond_b (fun _=> ?_) (fun _=> ?_)
            ·exact rt1 hR rfl rfl
            ·exact fun hg=>hN0 _ (Option.some.inj hg).symm _ (weak_mem [] rfl rfl rfl (okW_cons (ent_lst (E:=TTubeNode.E) _ false) (oR (okW_cons (ent_lst (E:=TTubeNode.E) _ false) (oR (oR okW_nil))))) okB_nil')
    ·refine bind_b fun l j=> ?_
     refine imp (callQ_says (sg70 j)) ?_
     refine imp ex_i64_b ?_
     refine cond_b (fun _=> ?_) (fun _=> ?_)
     ·exact rt1 hR rfl rfl
     ·refine cond_b (fun _=> ?_) (fun _=> ?_)
      ·exact rt1 hR rfl rfl
      ·refine cond_b (fun _=> ?_) (fun _=> ?_)
       ·exact rt1 hR rfl rfl
       ·refine cond_b (fun _=> ?_) (fun _=> ?_)
        ·exact rt1 hR rfl rfl
        ·refine cond_b (fun _=> ?_) (fun _=> ?_)
         ·exact rt1 hR rfl rfl
         ·refine cond_b (fun _=> ?_) (fun _=> ?_)
          ·exact rt1 hR rfl rfl
          ·refine cond_b (fun _=> ?_) (fun _=> ?_)
           ·exact rt1 hR rfl rfl
           ·exact fun hg=>hN0 _ (Option.some.inj hg).symm _ (weak_mem [] rfl rfl rfl (okW_cons (ent_lst (E:=TTubeNode.E) _ false) (oR (okW_cons (ent_lst (E:=TTubeNode.E) _ false) (oR (oR okW_nil))))) okB_nil')
 ·exact rt1 hR rfl rfl
theorem L36_0_ok (n:Nat) (a:List TTubeNode) (b c:Int) {t:ρ36} (R:AV→Mem→Prop) (hR:∀r:ρ36,t=r→∀u m,Ans ((intA r)) u m→R u m) (k:Nat) (x:Int) (hx:iterO (fun y:Int=>S36_0 n a b c y) k x=some t) {s:St} (hw:Weak KK 86 0 s (h36_0 (lstA TTubeNode.E a) b (lstA TTubeNode.E a) c x [])):Tri pg KK 86 0 (.loop c36_0) s (q36_0 R):=
 L36_0 R (σ:=Nat×(Int)) (fun z=>iterO (fun y:Int=>S36_0 n a b c y) z.1 z.2=some t) (fun z=>(lstA TTubeNode.E a)) (fun z=>b) (fun z=>(lstA TTubeNode.E a)) (fun z=>c) (fun z=>z.2) (fun z=>[]) (fun z=>z.1) (by
  rintro ⟨k,y⟩ h
  cases k with
  |zero=>exact (iterO_zero h).elim
  |succ k=>
   obtain ⟨u,d,f,g⟩:=iterO_elim h
   exact B36_0_ok n a b c y R _ (fun r e=>hR r (g _ e).symm) (fun y' e s' hw=>⟨(k,y'),f _ e,Nat.lt_succ_self k,hw⟩) d) (k,x) hx hw
theorem g36_ok (n:Nat) (a:List TTubeNode) {t:ρ36} (R:AV→Mem→Prop) (hR:∀r:ρ36,t=r→∀u m,Ans ((intA r)) u m→R u m):g36 n a=some t→F36 (lstA TTubeNode.E a) R:=by
 unfold g36 F36
 refine iq (intA (a.length:Int)) rfl ?_
 refine imp ex_i64_b ?_
 refine cond_b (fun _=> ?_) (fun _=> ?_)
 ·exact rt1 hR rfl rfl
 ·refine iq (intA (a.length:Int)) rfl ?_
  refine imp ex_i64_b ?_
  refine cond_b (fun _=> ?_) (fun _=> ?_)
  ·exact rt1 hR rfl rfl
  ·refine iq (intA (a.length:Int)) rfl ?_
   refine imp ex_i64_b ?_
   exact fun hg=>L36_0_ok n a (0) (a.length:Int) R hR n _ hg (weak_mem [] rfl rfl rfl (okW_cons (ent_lst (E:=TTubeNode.E) _ false) (oR (okW_cons (ent_lst (E:=TTubeNode.E) _ false) (oR (oR okW_nil))))) okB_nil')
theorem sg36 {n:Nat} {a:List TTubeNode} {t:ρ36} (h:g36 n a=some t):Says pg KK.gl 36 [lstA TTubeNode.E a] ((intA t)):=
 says_of_own (by first|rfl|simp [cleans,clean,encs_clean,En.cln]) (by first|rfl|simp [cleans,clean,encs_clean,En.cln]) (F36_own (lstA TTubeNode.E a) _ (g36_ok n a (Ans ((intA t))) (fun r e u m h=>by rw [e];exact h) h))
/- skyway/probe.check -/
theorem B144_0_ok (n:Nat) (a:Int) (b:List (List TTubeNode)) (c d:Int) {t:(Int)⊕ρ144} (R:AV→Mem→Prop) (N0:St→Prop) (hR:∀r:ρ144,t=(.inr r)→∀u m,Ans ((intA r)) u m→R u m) (hN0:∀y:Int,t=(.inl y)→∀s':St,Weak KK 26 0 s' (h144_0 a (lstA (lstE TTubeNode.E) b) c y [])→N0 s'):S144_0 n a b c d=some t→B144_0 a (lstA (lstE TTubeNode.E) b) c d [] R N0:=by
 unfold S144_0 B144_0
 refine cond_b (fun _=> ?_) (fun _=> ?_)
 ·refine bind_b fun e f=> ?_
  refine iq (AV.ept [lstA TTubeNode.E e] 0) (idx_lst (E:=(lstE TTubeNode.E)) rfl f) ?_
  refine iq (lstA TTubeNode.E e) rfl ?_
  refine bind_b fun h g=> ?_
  refine imp (callQ_says (sg36 g)) ?_
  refine imp ex_i64_b ?_
  refine cond_b (fun _=> ?_) (fun _=> ?_)
  ·exact rt1 hR rfl rfl
  ·exact fun hg=>hN0 _ (Option.some.inj hg).symm _ (weak_mem [] rfl rfl rfl (oR (okW_cons (ent_lst (E:=(lstE TTubeNode.E)) _ false) (oR (oR okW_nil)))) okB_nil')
 ·exact rt1 hR rfl rfl
theorem L144_0_ok (n:Nat) (a:Int) (b:List (List TTubeNode)) (c:Int) {t:ρ144} (R:AV→Mem→Prop) (hR:∀r:ρ144,t=r→∀u m,Ans ((intA r)) u m→R u m) (k:Nat) (x:Int) (hx:iterO (fun y:Int=>S144_0 n a b c y) k x=some t) {s:St} (hw:Weak KK 26 0 s (h144_0 a (lstA (lstE TTubeNode.E) b) c x [])):Tri pg KK 26 0 (.loop c144_0) s (q144_0 R):=
 L144_0 R (σ:=Nat×(Int)) (fun z=>iterO (fun y:Int=>S144_0 n a b c y) z.1 z.2=some t) (fun z=>a) (fun z=>(lstA (lstE TTubeNode.E) b)) (fun z=>c) (fun z=>z.2) (fun z=>[]) (fun z=>z.1) (by
  rintro ⟨k,y⟩ h
  cases k with
  |zero=>exact (iterO_zero h).elim
  |succ k=>
   obtain ⟨u,d,f,g⟩:=iterO_elim h
   exact B144_0_ok n a b c y R _ (fun r e=>hR r (g _ e).symm) (fun y' e s' hw=>⟨(k,y'),f _ e,Nat.lt_succ_self k,hw⟩) d) (k,x) hx hw
theorem g144_ok (n:Nat) (b:TSep) (a:List (List TTubeNode)) {t:ρ144} (R:AV→Mem→Prop) (hR:∀r:ρ144,t=r→∀u m,Ans ((intA r)) u m→R u m):g144 n b a=some t→F144 b.Lateral b.Vertical (lstA (lstE TTubeNode.E) a) R:=by
 unfold g144 F144
 refine bind_b fun d c=> ?_
 refine imp (callQ_says (sg168 c)) ?_
 refine imp ex_i64_b ?_
 refine cond_b (fun _=> ?_) (fun _=> ?_)
 ·exact rt1 hR rfl rfl
 ·refine iq (intA (a.length:Int)) rfl ?_
  refine imp ex_i64_b ?_
  exact fun hg=>L144_0_ok n (0) a (a.length:Int) R hR n _ hg (weak_mem [] rfl rfl rfl (oR (okW_cons (ent_lst (E:=(lstE TTubeNode.E)) _ false) (oR (oR okW_nil)))) okB_nil')
theorem sg144 {n:Nat} {a:TSep} {b:List (List TTubeNode)} {t:ρ144} (h:g144 n a b=some t):Says pg KK.gl 144 [AV.agg [intA a.Lateral,intA a.Vertical],lstA (lstE TTubeNode.E) b] ((intA t)):=
 says_of_own (by first|rfl|simp [cleans,clean,encs_clean,En.cln]) (by first|rfl|simp [cleans,clean,encs_clean,En.cln]) (F144_own a.Lateral a.Vertical (lstA (lstE TTubeNode.E) b) _ (g144_ok n a b (Ans ((intA t))) (fun r e u m h=>by rw [e];exact h) h))
/- skyway/probe.common -/
theorem g216_ok (n:Nat) (e f:List TTubeNode) {t:ρ216} (R:AV→Mem→Prop) (hR:∀r:ρ216,t=r→∀u m,Ans ((AV.tup [intA r.1,intA r.2])) u m→R u m):g216 n e f=some t→F216 (lstA TTubeNode.E e) (lstA TTubeNode.E f) R:=by
 unfold g216 F216
 refine bind_b fun a g=> ?_
 refine iq (AV.ept [intA a.Node_Time,intA a.Node_At_X,intA a.Node_At_Y,intA a.Node_Height,intA a.Radius,intA a.Band] 0) (idx_lst (E:=TTubeNode.E) rfl g) ?_
 refine iq (AV.ept [intA a.Node_Time,intA a.Node_At_X,intA a.Node_At_Y,intA a.Node_Height,intA a.Radius,intA a.Band] 0) rfl ?_
 refine iq (AV.ept [intA a.Node_Time,intA a.Node_At_X,intA a.Node_At_Y,intA a.Node_Height,intA a.Radius,intA a.Band] 0) rfl ?_
 refine iq (intA a.Node_Time) rfl ?_
 refine imp ex_i64_b ?_
 refine bind_b fun b h=> ?_
 refine iq (AV.ept [intA b.Node_Time,intA b.Node_At_X,intA b.Node_At_Y,intA b.Node_Height,intA b.Radius,intA b.Band] 0) (idx_lst (E:=TTubeNode.E) rfl h) ?_
 refine iq (AV.ept [intA b.Node_Time,intA b.Node_At_X,intA b.Node_At_Y,intA b.Node_Height,intA b.Radius,intA b.Band] 0) rfl ?_
 refine iq (AV.ept [intA b.Node_Time,intA b.Node_At_X,intA b.Node_At_Y,intA b.Node_Height,intA b.Radius,intA b.Band] 0) rfl ?_
 refine iq (intA b.Node_Time) rfl ?_
 refine imp ex_i64_b ?_
 refine iq (intA (if b.Node_Time>a.Node_Time then b.Node_Time else a.Node_Time)) krE ?_
 refine imp ex_i64_b ?_
 refine iq (intA (e.length:Int)) rfl ?_
 refine imp ex_i64_b ?_
 refine bind_b fun c i=> ?_
 refine iq (AV.ept [intA c.Node_Time,intA c.Node_At_X,intA c.Node_At_Y,intA c.Node_Height,intA c.Radius,intA c.Band] 0) (idx_lst (E:=TTubeNode.E) rfl i) ?_
 refine iq (AV.ept [intA c.Node_Time,intA c.Node_At_X,intA c.Node_At_Y,intA c.Node_Height,intA c.Radius,intA c.Band] 0) rfl ?_
 refine iq (AV.ept [intA c.Node_Time,intA c.Node_At_X,intA c.Node_At_Y,intA c.Node_Height,intA c.Radius,intA c.Band] 0) rfl ?_
 refine iq (intA c.Node_Time) rfl ?_
 refine imp ex_i64_b ?_
 refine iq (intA (f.length:Int)) rfl ?_
 refine imp ex_i64_b ?_
 refine bind_b fun d j=> ?_
 refine iq (AV.ept [intA d.Node_Time,intA d.Node_At_X,intA d.Node_At_Y,intA d.Node_Height,intA d.Radius,intA d.Band] 0) (idx_lst (E:=TTubeNode.E) rfl j) ?_
 refine iq (AV.ept [intA d.Node_Time,intA d.Node_At_X,intA d.Node_At_Y,intA d.Node_Height,intA d.Radius,intA d.Band] 0) rfl ?_
 refine iq (AV.ept [intA d.Node_Time,intA d.Node_At_X,intA d.Node_At_Y,intA d.Node_Height,intA d.Radius,intA d.Band] 0) rfl ?_
 refine iq (intA d.Node_Time) rfl ?_
 refine imp ex_i64_b ?_
 refine iq (intA (if d.Node_Time<c.Node_Time then d.Node_Time else c.Node_Time)) krE ?_
 refine imp ex_i64_b ?_
 exact fun hg=>retN rfl (hR _ (Option.some.inj hg).symm) (fS (fS fzL_nil))
theorem sg216 {n:Nat} {a:List TTubeNode} {b:List TTubeNode} {t:ρ216} (h:g216 n a b=some t):Says pg KK.gl 216 [lstA TTubeNode.E a,lstA TTubeNode.E b] ((AV.tup [intA t.1,intA t.2])):=
 says_of_own (by first|rfl|simp [cleans,clean,encs_clean,En.cln]) (by first|rfl|simp [cleans,clean,encs_clean,En.cln]) (F216_own (lstA TTubeNode.E a) (lstA TTubeNode.E b) _ (g216_ok n a b (Ans ((AV.tup [intA t.1,intA t.2]))) (fun r e u m h=>by rw [e];exact h) h))
/- skyway/tube.ends -/
theorem g137_ok (n:Nat) (c:List TTubeNode) {t:ρ137} (R:AV→Mem→Prop) (hR:∀r:ρ137,t=r→∀u m,Ans ((AV.tup [intA r.1,intA r.2])) u m→R u m):g137 n c=some t→F137 (lstA TTubeNode.E c) R:=by
 unfold g137 F137
 refine bind_b fun a d=> ?_
 refine iq (AV.ept [intA a.Node_Time,intA a.Node_At_X,intA a.Node_At_Y,intA a.Node_Height,intA a.Radius,intA a.Band] 0) (idx_lst (E:=TTubeNode.E) rfl d) ?_
 refine iq (AV.ept [intA a.Node_Time,intA a.Node_At_X,intA a.Node_At_Y,intA a.Node_Height,intA a.Radius,intA a.Band] 0) rfl ?_
 refine iq (AV.ept [intA a.Node_Time,intA a.Node_At_X,intA a.Node_At_Y,intA a.Node_Height,intA a.Radius,intA a.Band] 0) rfl ?_
 refine iq (intA a.Node_Time) rfl ?_
 refine imp ex_i64_b ?_
 refine iq (intA (c.length:Int)) rfl ?_
 refine imp ex_i64_b ?_
 refine bind_b fun b e=> ?_
 refine iq (AV.ept [intA b.Node_Time,intA b.Node_At_X,intA b.Node_At_Y,intA b.Node_Height,intA b.Radius,intA b.Band] 0) (idx_lst (E:=TTubeNode.E) rfl e) ?_
 refine iq (AV.ept [intA b.Node_Time,intA b.Node_At_X,intA b.Node_At_Y,intA b.Node_Height,intA b.Radius,intA b.Band] 0) rfl ?_
 refine iq (AV.ept [intA b.Node_Time,intA b.Node_At_X,intA b.Node_At_Y,intA b.Node_Height,intA b.Radius,intA b.Band] 0) rfl ?_
 refine iq (intA b.Node_Time) rfl ?_
 refine imp ex_i64_b ?_
 exact fun hg=>retN rfl (hR _ (Option.some.inj hg).symm) (fS (fS fzL_nil))
theorem sg137 {n:Nat} {a:List TTubeNode} {t:ρ137} (h:g137 n a=some t):Says pg KK.gl 137 [lstA TTubeNode.E a] ((AV.tup [intA t.1,intA t.2])):=
 says_of_own (by first|rfl|simp [cleans,clean,encs_clean,En.cln]) (by first|rfl|simp [cleans,clean,encs_clean,En.cln]) (F137_own (lstA TTubeNode.E a) _ (g137_ok n a (Ans ((AV.tup [intA t.1,intA t.2]))) (fun r e u m h=>by rw [e];exact h) h))
/- skyway/tube.at$1 -/
theorem g205_ok (n:Nat) (a:TTubeNode) (b:Int) {t:ρ205} (R:AV→Mem→Prop) (hR:∀r:ρ205,t=r→∀u m,Ans ((intA r)) u m→R u m):g205 n a b=some t→F205 a.Node_Time a.Node_At_X a.Node_At_Y a.Node_Height a.Radius a.Band b R:=by
 unfold g205 F205
 exact rt1 hR rfl rfl
theorem sg205 {n:Nat} {a:TTubeNode} {b:Int} {t:ρ205} (h:g205 n a b=some t):Says pg KK.gl 205 [AV.agg [intA a.Node_Time,intA a.Node_At_X,intA a.Node_At_Y,intA a.Node_Height,intA a.Radius,intA a.Band],intA b] ((intA t)):=
 says_of_own (by first|rfl|simp [cleans,clean,encs_clean,En.cln]) (by first|rfl|simp [cleans,clean,encs_clean,En.cln]) (F205_own a.Node_Time a.Node_At_X a.Node_At_Y a.Node_Height a.Radius a.Band b _ (g205_ok n a b (Ans ((intA t))) (fun r e u m h=>by rw [e];exact h) h))
/- slices.BinarySearchFunc[skyway/api.Tube,skyway/api.TubeNode,int] -/
theorem B204_0_ok (n:Nat) (e:List TTubeNode) (f c6:Int) (c7:Bool) (c8 c d:Int) {t:(Int×Int)⊕ρ204} (R:AV→Mem→Prop) (N0:St→Prop) (hR:∀r:ρ204,t=(.inr r)→∀u m,Ans ((AV.tup [intA r.1,boolA r.2])) u m→R u m) (hN0:∀y:Int×Int,t=(.inl y)→∀s':St,Weak KK 49 0 s' (h204_0 (lstA TTubeNode.E e) f (AV.fn 205 []) c6 c7 c8 y.1 y.2 [])→N0 s'):S204_0 n e f c6 c7 c8 c d=some t→B204_0 (lstA TTubeNode.E e) f (AV.fn 205 []) c6 c7 c8 c d [] R N0:=by
 unfold S204_0 B204_0
 refine cond_b (fun _=> ?_) (fun _=> ?_)
 ·refine iq (AV.sc (.int .u64 (IntKind.wrap .u64 (IntKind.wrap .i64 (c+d))))) krE ?_
  refine imp ex_u64_b ?_
  refine imp (opP_of (show _=some ((AV.sc (.int .u64 (Int.fdiv (IntKind.wrap .u64 (IntKind.wrap .i64 (c+d))) 2))),[]) from opA_shr1)) ?_
  refine imp ex_u64_b ?_
  refine iq (intA (IntKind.wrap .i64 (Int.fdiv (IntKind.wrap .u64 (IntKind.wrap .i64 (c+d))) 2))) krE ?_
  refine imp ex_i64_b ?_
  refine bind_b fun a g=> ?_
  refine iq (AV.ept [intA a.Node_Time,intA a.Node_At_X,intA a.Node_At_Y,intA a.Node_Height,intA a.Radius,intA a.Band] 0) (idx_lst (E:=TTubeNode.E) rfl g) ?_
  refine iq (AV.agg [intA a.Node_Time,intA a.Node_At_X,intA a.Node_At_Y,intA a.Node_Height,intA a.Radius,intA a.Band]) rfl ?_
  refine imp exA6_b ?_
  iterate 6 refine imp ex_i64_b ?_
  refine bind_b fun k h=> ?_
  refine imp fnArgs_b ?_
  refine imp (cond_tt rfl) ?_
  refine imp (callQ_says (sg205 h)) ?_
  refine imp ex_i64_b ?_
  refine cond_b (fun _=> ?_) (fun _=> ?_)
  ·exact fun hg=>hN0 _ (Option.some.inj hg).symm _ (weak_mem [] rfl rfl rfl (okW_cons (ent_lst (E:=TTubeNode.E) _ false) (oR (oR (oR (oR (oR (oR (oR okW_nil)))))))) okB_nil')
  ·exact fun hg=>hN0 _ (Option.some.inj hg).symm _ (weak_mem [] rfl rfl rfl (okW_cons (ent_lst (E:=TTubeNode.E) _ false) (oR (oR (oR (oR (oR (oR (oR okW_nil)))))))) okB_nil')
 ·refine cond_b (fun _=> ?_) (fun _=> ?_)
  ·refine bind_b fun b i=> ?_
   refine iq (AV.ept [intA b.Node_Time,intA b.Node_At_X,intA b.Node_At_Y,intA b.Node_Height,intA b.Radius,intA b.Band] 0) (idx_lst (E:=TTubeNode.E) rfl i) ?_
   refine iq (AV.agg [intA b.Node_Time,intA b.Node_At_X,intA b.Node_At_Y,intA b.Node_Height,intA b.Radius,intA b.Band]) rfl ?_
   refine imp exA6_b ?_
   iterate 6 refine imp ex_i64_b ?_
   refine bind_b fun l j=> ?_
   refine imp fnArgs_b ?_
   refine imp (cond_tt rfl) ?_
   refine imp (callQ_says (sg205 j)) ?_
   refine imp ex_i64_b ?_
   exact fun hg=>retN rfl (hR _ (Option.some.inj hg).symm) (fS (fS fzL_nil))
  ·exact fun hg=>retN rfl (hR _ (Option.some.inj hg).symm) (fS (fS fzL_nil))
theorem L204_0_ok (n:Nat) (a:List TTubeNode) (b c6:Int) (c7:Bool) (c8:Int) {t:ρ204} (R:AV→Mem→Prop) (hR:∀r:ρ204,t=r→∀u m,Ans ((AV.tup [intA r.1,boolA r.2])) u m→R u m) (k:Nat) (x:Int×Int) (hx:iterO (fun y:Int×Int=>S204_0 n a b c6 c7 c8 y.1 y.2) k x=some t) {s:St} (hw:Weak KK 49 0 s (h204_0 (lstA TTubeNode.E a) b (AV.fn 205 []) c6 c7 c8 x.1 x.2 [])):Tri pg KK 49 0 (.loop c204_0) s (q204_0 R):=
 L204_0 R (σ:=Nat×(Int×Int)) (fun z=>iterO (fun y:Int×Int=>S204_0 n a b c6 c7 c8 y.1 y.2) z.1 z.2=some t) (fun z=>(lstA TTubeNode.E a)) (fun z=>b) (fun z=>(AV.fn 205 [])) (fun z=>c6) (fun z=>c7) (fun z=>c8) (fun z=>z.2.1) (fun z=>z.2.2) (fun z=>[]) (fun z=>z.1) (by
  rintro ⟨k,y⟩ h
  cases k with
  |zero=>exact (iterO_zero h).elim
  |succ k=>
   obtain ⟨u,c,d,f⟩:=iterO_elim h
   exact B204_0_ok n a b c6 c7 c8 y.1 y.2 R _ (fun r e=>hR r (f _ e).symm) (fun y' e s' hw=>⟨(k,y'),d _ e,Nat.lt_succ_self k,hw⟩) c) (k,x) hx hw
theorem g204_ok (n:Nat) (a:List TTubeNode) (b:Int) {t:ρ204} (R:AV→Mem→Prop) (hR:∀r:ρ204,t=r→∀u m,Ans ((AV.tup [intA r.1,boolA r.2])) u m→R u m):g204 n a b=some t→F204 (lstA TTubeNode.E a) b (AV.fn 205 []) R:=by
 unfold g204 F204
 refine iq (intA (a.length:Int)) rfl ?_
 refine imp ex_i64_b ?_
 exact fun hg=>L204_0_ok n a b (0) false (a.length:Int) R hR n _ hg (weak_mem [] rfl rfl rfl (okW_cons (ent_lst (E:=TTubeNode.E) _ false) (oR (oR (oR (oR (oR (oR (oR okW_nil)))))))) okB_nil')
theorem sg204 {n:Nat} {a:List TTubeNode} {b:Int} {t:ρ204} (h:g204 n a b=some t):Says pg KK.gl 204 [lstA TTubeNode.E a,intA b,AV.fn 205 []] ((AV.tup [intA t.1,boolA t.2])):=
 says_of_own (by first|rfl|simp [cleans,clean,encs_clean,En.cln]) (by first|rfl|simp [cleans,clean,encs_clean,En.cln]) (F204_own (lstA TTubeNode.E a) b (AV.fn 205 []) _ (g204_ok n a b (Ans ((AV.tup [intA t.1,boolA t.2]))) (fun r e u m h=>by rw [e];exact h) h))
/- skyway/num.DivDown -/
theorem g207_ok (n:Nat) (a b:Int) {t:ρ207} (R:AV→Mem→Prop) (hR:∀r:ρ207,t=r→∀u m,Ans ((AV.tup [intA r.1,intA r.2])) u m→R u m):g207 n a b=some t→F207 a b R:=by
 unfold g207 F207
 refine cond_b (fun _=> ?_) (fun _=> ?_)
 ·exact fun hg=>retN rfl (hR _ (Option.some.inj hg).symm) (fS (fS fzL_nil))
 ·refine cond_b (fun _=> ?_) (fun _=> ?_)
  ·refine cond_b (fun _=> ?_) (fun _=> ?_)
   ·exact fun hg=>retN rfl (hR _ (Option.some.inj hg).symm) (fS (fS fzL_nil))
   ·refine bind_b fun c d=> ?_
    refine iq (intA (IntKind.wrap .i64 c)) (opA_quo d) ?_
    refine imp ex_i64_b ?_
    refine bind_b fun e f=> ?_
    refine iq (intA e) (opA_rem f) ?_
    refine imp ex_i64_b ?_
    refine cond_b (fun _=> ?_) (fun _=> ?_)
    ·refine iq (boolA (!((decide (a<(0)))==(decide (b<(0)))))) krE ?_
     refine imp exB_b ?_
     refine cond_b (fun _=> ?_) (fun _=> ?_)
     ·exact fun hg=>retN rfl (hR _ (Option.some.inj hg).symm) (fS (fS fzL_nil))
     ·exact fun hg=>retN rfl (hR _ (Option.some.inj hg).symm) (fS (fS fzL_nil))
    ·exact fun hg=>retN rfl (hR _ (Option.some.inj hg).symm) (fS (fS fzL_nil))
  ·refine bind_b fun g h=> ?_
   refine iq (intA (IntKind.wrap .i64 g)) (opA_quo h) ?_
   refine imp ex_i64_b ?_
   refine bind_b fun i j=> ?_
   refine iq (intA i) (opA_rem j) ?_
   refine imp ex_i64_b ?_
   refine cond_b (fun _=> ?_) (fun _=> ?_)
   ·refine iq (boolA (!((decide (a<(0)))==(decide (b<(0)))))) krE ?_
    refine imp exB_b ?_
    refine cond_b (fun _=> ?_) (fun _=> ?_)
    ·exact fun hg=>retN rfl (hR _ (Option.some.inj hg).symm) (fS (fS fzL_nil))
    ·exact fun hg=>retN rfl (hR _ (Option.some.inj hg).symm) (fS (fS fzL_nil))
   ·exact fun hg=>retN rfl (hR _ (Option.some.inj hg).symm) (fS (fS fzL_nil))
theorem sg207 {n:Nat} {a:Int} {b:Int} {t:ρ207} (h:g207 n a b=some t):Says pg KK.gl 207 [intA a,intA b] ((AV.tup [intA t.1,intA t.2])):=
 says_of_own (by first|rfl|simp [cleans,clean,encs_clean,En.cln]) (by first|rfl|simp [cleans,clean,encs_clean,En.cln]) (F207_own a b _ (g207_ok n a b (Ans ((AV.tup [intA t.1,intA t.2]))) (fun r e u m h=>by rw [e];exact h) h))
/- skyway/plane.Toward -/
theorem g206_ok (n:Nat) (a b:TP) (e f:Int) {t:ρ206} (R:AV→Mem→Prop) (hR:∀r:ρ206,t=r→∀u m,Ans ((AV.tup [AV.agg (TP.E.enc r.1),intA r.2])) u m→R u m):g206 n a b e f=some t→F206 a.X a.Y b.X b.Y e f R:=by
 unfold g206 F206
 refine cond_b (fun _=> ?_) (fun _=> ?_)
 ·refine iq (AV.agg [intA (0),intA (0)]) rfl ?_
  refine imp (storeW_cells (sz:=2) krE krE rfl rfl (cs:=[intA (0),intA (0)]) (cs':=[intA (0),intA (0)]) (ty:=38) (by first|rfl|(simp (disch:=first|decide|assumption) only [lk])) rfl rfl) ?_
  exact fun hg=>retN rfl (hR _ (Option.some.inj hg).symm) (fzL_cons (fz_el (E:=TP.E) _ (⟨0,0⟩:TP)) (fS fzL_nil))
 ·refine cond_b (fun _=> ?_) (fun _=> ?_)
  ·refine iq (AV.agg [intA (0),intA (0)]) rfl ?_
   refine imp (storeW_cells (sz:=2) krE krE rfl rfl (cs:=[intA (0),intA (0)]) (cs':=[intA (0),intA (0)]) (ty:=38) (by first|rfl|(simp (disch:=first|decide|assumption) only [lk])) rfl rfl) ?_
   exact fun hg=>retN rfl (hR _ (Option.some.inj hg).symm) (fzL_cons (fz_el (E:=TP.E) _ (⟨0,0⟩:TP)) (fS fzL_nil))
  ·refine cond_b (fun _=> ?_) (fun _=> ?_)
   ·refine iq (AV.agg [intA (0),intA (0)]) rfl ?_
    refine imp (storeW_cells (sz:=2) krE krE rfl rfl (cs:=[intA (0),intA (0)]) (cs':=[intA (0),intA (0)]) (ty:=38) (by first|rfl|(simp (disch:=first|decide|assumption) only [lk])) rfl rfl) ?_
    exact fun hg=>retN rfl (hR _ (Option.some.inj hg).symm) (fzL_cons (fz_el (E:=TP.E) _ (⟨0,0⟩:TP)) (fS fzL_nil))
   ·refine cond_b (fun _=> ?_) (fun _=> ?_)
    ·refine iq (AV.agg [intA (0),intA (0)]) rfl ?_
     refine imp (storeW_cells (sz:=2) krE krE rfl rfl (cs:=[intA (0),intA (0)]) (cs':=[intA (0),intA (0)]) (ty:=38) (by first|rfl|(simp (disch:=first|decide|assumption) only [lk])) rfl rfl) ?_
     exact fun hg=>retN rfl (hR _ (Option.some.inj hg).symm) (fzL_cons (fz_el (E:=TP.E) _ (⟨0,0⟩:TP)) (fS fzL_nil))
    ·refine bind_b fun o g=> ?_
     refine imp (callQ_says (sg70 g)) ?_
     refine imp ex_i64_b ?_
     refine cond_b (fun _=> ?_) (fun _=> ?_)
     ·refine iq (AV.agg [intA (0),intA (0)]) rfl ?_
      refine bind_b fun p h=> ?_
      refine imp (callQ_says (sg70 h)) ?_
      refine imp ex_i64_b ?_
      refine imp (storeW_cells (sz:=2) krE krE rfl rfl (cs:=[intA (0),intA (0)]) (cs':=[intA (0),intA (0)]) (ty:=38) (by first|rfl|(simp (disch:=first|decide|assumption) only [lk])) rfl rfl) ?_
      exact fun hg=>retN rfl (hR _ (Option.some.inj hg).symm) (fzL_cons (fz_el (E:=TP.E) _ (⟨0,0⟩:TP)) (fS fzL_nil))
     ·refine bind_b fun q i=> ?_
      refine imp (callQ_says (sg70 i)) ?_
      refine imp ex_i64_b ?_
      refine cond_b (fun _=> ?_) (fun _=> ?_)
      ·refine iq (AV.agg [intA (0),intA (0)]) rfl ?_
       refine bind_b fun s j=> ?_
       refine imp (callQ_says (sg70 j)) ?_
       refine imp ex_i64_b ?_
       refine imp (storeW_cells (sz:=2) krE krE rfl rfl (cs:=[intA (0),intA (0)]) (cs':=[intA (0),intA (0)]) (ty:=38) (by first|rfl|(simp (disch:=first|decide|assumption) only [lk])) rfl rfl) ?_
       exact fun hg=>retN rfl (hR _ (Option.some.inj hg).symm) (fzL_cons (fz_el (E:=TP.E) _ (⟨0,0⟩:TP)) (fS fzL_nil))
      ·refine bind_b fun c k=> ?_
       refine imp (callQ_says (sg207 k)) ?_
       refine imp exT2_b ?_
       iterate 2 refine imp ex_i64_b ?_
       refine bind_b fun d l=> ?_
       refine imp (callQ_says (sg207 l)) ?_
       refine imp exT2_b ?_
       iterate 2 refine imp ex_i64_b ?_
       refine iq (AV.agg [intA (IntKind.wrap .i64 (a.X+c.1)),intA (IntKind.wrap .i64 (a.Y+d.1))]) rfl ?_
       refine imp (storeW_cells (sz:=2) krE krE rfl rfl (cs:=[intA (0),intA (0)]) (cs':=[intA (IntKind.wrap .i64 (a.X+c.1)),intA (IntKind.wrap .i64 (a.Y+d.1))]) (ty:=38) (by first|rfl|(simp (disch:=first|decide|assumption) only [lk])) rfl rfl) ?_
       exact fun hg=>retN rfl (hR _ (Option.some.inj hg).symm) (fzL_cons (fz_el (E:=TP.E) _ (⟨IntKind.wrap .i64 (a.X+c.1),IntKind.wrap .i64 (a.Y+d.1)⟩:TP)) (fS fzL_nil))
theorem sg206 {n:Nat} {a:TP} {b:TP} {c:Int} {d:Int} {t:ρ206} (h:g206 n a b c d=some t):Says pg KK.gl 206 [AV.agg [intA a.X,intA a.Y],AV.agg [intA b.X,intA b.Y],intA c,intA d] ((AV.tup [AV.agg (TP.E.enc t.1),intA t.2])):=
 says_of_own (by first|rfl|simp [cleans,clean,encs_clean,En.cln]) (by first|rfl|simp [cleans,clean,encs_clean,En.cln]) (F206_own a.X a.Y b.X b.Y c d _ (g206_ok n a b c d (Ans ((AV.tup [AV.agg (TP.E.enc t.1),intA t.2]))) (fun r e u m h=>by rw [e];exact h) h))
/- skyway/num.DivUp -/
theorem g208_ok (n:Nat) (a b:Int) {t:ρ208} (R:AV→Mem→Prop) (hR:∀r:ρ208,t=r→∀u m,Ans ((AV.tup [intA r.1,intA r.2])) u m→R u m):g208 n a b=some t→F208 a b R:=by
 unfold g208 F208
 refine bind_b fun f c=> ?_
 refine imp (callQ_says (sg207 c)) ?_
 refine imp exT2_b ?_
 iterate 2 refine imp ex_i64_b ?_
 refine cond_b (fun _=> ?_) (fun _=> ?_)
 ·refine bind_b fun d e=> ?_
  refine iq (intA d) (opA_rem e) ?_
  refine imp ex_i64_b ?_
  refine cond_b (fun _=> ?_) (fun _=> ?_)
  ·exact fun hg=>retN rfl (hR _ (Option.some.inj hg).symm) (fS (fS fzL_nil))
  ·exact fun hg=>retN rfl (hR _ (Option.some.inj hg).symm) (fS (fS fzL_nil))
 ·exact fun hg=>retN rfl (hR _ (Option.some.inj hg).symm) (fS (fS fzL_nil))
theorem sg208 {n:Nat} {a:Int} {b:Int} {t:ρ208} (h:g208 n a b=some t):Says pg KK.gl 208 [intA a,intA b] ((AV.tup [intA t.1,intA t.2])):=
 says_of_own (by first|rfl|simp [cleans,clean,encs_clean,En.cln]) (by first|rfl|simp [cleans,clean,encs_clean,En.cln]) (F208_own a b _ (g208_ok n a b (Ans ((AV.tup [intA t.1,intA t.2]))) (fun r e u m h=>by rw [e];exact h) h))
/- skyway/tube.at -/
theorem g138_ok (n:Nat) (j:List TTubeNode) (f:Int) {t:ρ138} (R:AV→Mem→Prop) (hR:∀r:ρ138,t=r→∀u m,Ans ((AV.agg (TTubeNode.E.enc r))) u m→R u m):g138 n j f=some t→F138 (lstA TTubeNode.E j) f R:=by
 unfold g138 F138
 refine bind_b fun x k=> ?_
 refine imp (callW_says (sg204 k)) ?_
 refine imp exT2_b ?_
 refine imp ex_i64_b ?_
 refine imp exB_b ?_
 refine cond_b (fun _=> ?_) (fun _=> ?_)
 ·refine bind_b fun d l=> ?_
  refine iq (AV.ept [intA d.Node_Time,intA d.Node_At_X,intA d.Node_At_Y,intA d.Node_Height,intA d.Radius,intA d.Band] 0) (idx_lst (E:=TTubeNode.E) rfl l) ?_
  refine iq (AV.agg [intA d.Node_Time,intA d.Node_At_X,intA d.Node_At_Y,intA d.Node_Height,intA d.Radius,intA d.Band]) rfl ?_
  refine imp exA6_b ?_
  iterate 6 refine imp ex_i64_b ?_
  refine imp (storeW_cells (sz:=6) krE krE rfl rfl (cs:=[intA (0),intA (0),intA (0),intA (0),intA (0),intA (0)]) (cs':=[intA d.Node_Time,intA d.Node_At_X,intA d.Node_At_Y,intA d.Node_Height,intA d.Radius,intA d.Band]) (ty:=129) (by first|rfl|(simp (disch:=first|decide|assumption) only [lk])) rfl rfl) ?_
  exact fun hg=>ret1 (hR _ (Option.some.inj hg).symm) (fz_el (E:=TTubeNode.E) _ d)
 ·refine bind_b fun a o=> ?_
  refine imp (opM_of (show _=some ((AV.ept [intA a.Node_Time,intA a.Node_At_X,intA a.Node_At_Y,intA a.Node_Height,intA a.Radius,intA a.Band] 0),[]) from (idx_lst (E:=TTubeNode.E) rfl o))) ?_
  refine imp (opM_of (show _=some ((AV.agg [intA a.Node_Time,intA a.Node_At_X,intA a.Node_At_Y,intA a.Node_Height,intA a.Radius,intA a.Band]),[]) from rfl)) ?_
  refine imp exA6_b ?_
  iterate 6 refine imp ex_i64_b ?_
  refine bind_b fun c p=> ?_
  refine imp (opM_of (show _=some ((AV.ept [intA c.Node_Time,intA c.Node_At_X,intA c.Node_At_Y,intA c.Node_Height,intA c.Radius,intA c.Band] 0),[]) from (idx_lst (E:=TTubeNode.E) rfl p))) ?_
  refine imp (opM_of (show _=some ((AV.agg [intA c.Node_Time,intA c.Node_At_X,intA c.Node_At_Y,intA c.Node_Height,intA c.Radius,intA c.Band]),[]) from rfl)) ?_
  refine imp exA6_b ?_
  iterate 6 refine imp ex_i64_b ?_
  refine imp (storeW_cells (sz:=6) krE krE rfl rfl (cs:=[intA (0),intA (0),intA (0),intA (0),intA (0),intA (0)]) (cs':=[intA a.Node_Time,intA a.Node_At_X,intA a.Node_At_Y,intA a.Node_Height,intA a.Radius,intA a.Band]) (ty:=129) (by first|rfl|(rw [look'_mem (by first|rfl|simp [topId_blk]|simp [topId])];first|rfl|(simp (disch:=first|decide|assumption) only [lk]))) rfl rfl) ?_
  refine imp (storeW_cells (sz:=6) krE krE rfl rfl (cs:=[intA (0),intA (0),intA (0),intA (0),intA (0),intA (0)]) (cs':=[intA c.Node_Time,intA c.Node_At_X,intA c.Node_At_Y,intA c.Node_Height,intA c.Radius,intA c.Band]) (ty:=129) (by first|rfl|(rw [look'_mem (by first|rfl|simp [topId_blk]|simp [topId])];first|rfl|(simp (disch:=first|decide|assumption) only [lk]))) rfl rfl) ?_
  refine imp (chk_of krE) ?_
  refine iq (intA a.Node_Time) (ldS_ptr (b:=⟨[intA a.Node_Time,intA a.Node_At_X,intA a.Node_At_Y,intA a.Node_Height,intA a.Radius,intA a.Band],129⟩) (by first|rfl|(simp (disch:=first|decide|assumption) only [lk])) rfl) ?_
  refine imp ex_i64_b ?_
  refine iq (intA c.Node_Time) (ldS_ptr (b:=⟨[intA c.Node_Time,intA c.Node_At_X,intA c.Node_At_Y,intA c.Node_Height,intA c.Radius,intA c.Band],129⟩) (by first|rfl|(simp (disch:=first|decide|assumption) only [lk])) rfl) ?_
  refine imp ex_i64_b ?_
  refine iq (intA a.Node_Time) (ldS_ptr (b:=⟨[intA a.Node_Time,intA a.Node_At_X,intA a.Node_At_Y,intA a.Node_Height,intA a.Radius,intA a.Band],129⟩) (by first|rfl|(simp (disch:=first|decide|assumption) only [lk])) rfl) ?_
  refine imp ex_i64_b ?_
  refine iq (AV.agg [intA a.Node_At_X,intA a.Node_At_Y]) (ldA_ptr (b:=⟨[intA a.Node_Time,intA a.Node_At_X,intA a.Node_At_Y,intA a.Node_Height,intA a.Radius,intA a.Band],129⟩) (by first|rfl|(simp (disch:=first|decide|assumption) only [lk])) rfl) ?_
  refine imp exA2_b ?_
  iterate 2 refine imp ex_i64_b ?_
  refine iq (AV.agg [intA c.Node_At_X,intA c.Node_At_Y]) (ldA_ptr (b:=⟨[intA c.Node_Time,intA c.Node_At_X,intA c.Node_At_Y,intA c.Node_Height,intA c.Radius,intA c.Band],129⟩) (by first|rfl|(simp (disch:=first|decide|assumption) only [lk])) rfl) ?_
  refine imp exA2_b ?_
  iterate 2 refine imp ex_i64_b ?_
  refine bind_b fun e q=> ?_
  refine imp (callQ_says (sg206 q)) ?_
  refine imp exT2_b ?_
  refine imp exA2_b ?_
  iterate 3 refine imp ex_i64_b ?_
  refine iq (intA c.Node_Height) (ldS_ptr (b:=⟨[intA c.Node_Time,intA c.Node_At_X,intA c.Node_At_Y,intA c.Node_Height,intA c.Radius,intA c.Band],129⟩) (by first|rfl|(simp (disch:=first|decide|assumption) only [lk])) rfl) ?_
  refine imp ex_i64_b ?_
  refine iq (intA a.Node_Height) (ldS_ptr (b:=⟨[intA a.Node_Time,intA a.Node_At_X,intA a.Node_At_Y,intA a.Node_Height,intA a.Radius,intA a.Band],129⟩) (by first|rfl|(simp (disch:=first|decide|assumption) only [lk])) rfl) ?_
  refine imp ex_i64_b ?_
  refine bind_b fun g s=> ?_
  refine imp (callQ_says (sg207 s)) ?_
  refine imp exT2_b ?_
  iterate 2 refine imp ex_i64_b ?_
  refine iq (intA c.Radius) (ldS_ptr (b:=⟨[intA c.Node_Time,intA c.Node_At_X,intA c.Node_At_Y,intA c.Node_Height,intA c.Radius,intA c.Band],129⟩) (by first|rfl|(simp (disch:=first|decide|assumption) only [lk])) rfl) ?_
  refine imp ex_i64_b ?_
  refine iq (intA a.Radius) (ldS_ptr (b:=⟨[intA a.Node_Time,intA a.Node_At_X,intA a.Node_At_Y,intA a.Node_Height,intA a.Radius,intA a.Band],129⟩) (by first|rfl|(simp (disch:=first|decide|assumption) only [lk])) rfl) ?_
  refine imp ex_i64_b ?_
  refine bind_b fun h v=> ?_
  refine imp (callQ_says (sg208 v)) ?_
  refine imp exT2_b ?_
  iterate 2 refine imp ex_i64_b ?_
  refine iq (intA c.Band) (ldS_ptr (b:=⟨[intA c.Node_Time,intA c.Node_At_X,intA c.Node_At_Y,intA c.Node_Height,intA c.Radius,intA c.Band],129⟩) (by first|rfl|(simp (disch:=first|decide|assumption) only [lk])) rfl) ?_
  refine imp ex_i64_b ?_
  refine iq (intA a.Band) (ldS_ptr (b:=⟨[intA a.Node_Time,intA a.Node_At_X,intA a.Node_At_Y,intA a.Node_Height,intA a.Radius,intA a.Band],129⟩) (by first|rfl|(simp (disch:=first|decide|assumption) only [lk])) rfl) ?_
  refine imp ex_i64_b ?_
  refine bind_b fun i w=> ?_
  refine imp (callQ_says (sg208 w)) ?_
  refine imp exT2_b ?_
  iterate 2 refine imp ex_i64_b ?_
  refine iq (intA a.Node_Height) (ldS_ptr (b:=⟨[intA a.Node_Time,intA a.Node_At_X,intA a.Node_At_Y,intA a.Node_Height,intA a.Radius,intA a.Band],129⟩) (by first|rfl|(simp (disch:=first|decide|assumption) only [lk])) rfl) ?_
  refine imp ex_i64_b ?_
  refine iq (AV.agg [intA f,intA e.1.X,intA e.1.Y,intA (IntKind.wrap .i64 (a.Node_Height+g.1))]) rfl ?_
  refine iq (intA a.Radius) (ldS_ptr (b:=⟨[intA a.Node_Time,intA a.Node_At_X,intA a.Node_At_Y,intA a.Node_Height,intA a.Radius,intA a.Band],129⟩) (by first|rfl|(simp (disch:=first|decide|assumption) only [lk])) rfl) ?_
  refine imp ex_i64_b ?_
  refine iq (intA a.Band) (ldS_ptr (b:=⟨[intA a.Node_Time,intA a.Node_At_X,intA a.Node_At_Y,intA a.Node_Height,intA a.Radius,intA a.Band],129⟩) (by first|rfl|(simp (disch:=first|decide|assumption) only [lk])) rfl) ?_
  refine imp ex_i64_b ?_
  refine iq (AV.agg [intA f,intA e.1.X,intA e.1.Y,intA (IntKind.wrap .i64 (a.Node_Height+g.1)),intA (IntKind.wrap .i64 (a.Radius+h.1)),intA (IntKind.wrap .i64 (a.Band+i.1))]) rfl ?_
  refine imp (storeW_cells (sz:=6) krE krE rfl rfl (cs:=[intA (0),intA (0),intA (0),intA (0),intA (0),intA (0)]) (cs':=[intA f,intA e.1.X,intA e.1.Y,intA (IntKind.wrap .i64 (a.Node_Height+g.1)),intA (IntKind.wrap .i64 (a.Radius+h.1)),intA (IntKind.wrap .i64 (a.Band+i.1))]) (ty:=129) (by first|rfl|(simp (disch:=first|decide|assumption) only [lk])) rfl rfl) ?_
  exact fun hg=>ret1 (hR _ (Option.some.inj hg).symm) (fz_el (E:=TTubeNode.E) _ (⟨f,e.1.X,e.1.Y,IntKind.wrap .i64 (a.Node_Height+g.1),IntKind.wrap .i64 (a.Radius+h.1),IntKind.wrap .i64 (a.Band+i.1)⟩:TTubeNode))
theorem sg138 {n:Nat} {a:List TTubeNode} {b:Int} {t:ρ138} (h:g138 n a b=some t):Says pg KK.gl 138 [lstA TTubeNode.E a,intA b] ((AV.agg (TTubeNode.E.enc t))):=
 says_of_own (by first|rfl|simp [cleans,clean,encs_clean,En.cln]) (by first|rfl|simp [cleans,clean,encs_clean,En.cln]) (F138_own (lstA TTubeNode.E a) b _ (g138_ok n a b (Ans ((AV.agg (TTubeNode.E.enc t)))) (fun r e u m h=>by rw [e];exact h) h))
/- skyway/tube.At -/
theorem g71_ok (n:Nat) (a:List TTubeNode) (b:Int) {t:ρ71} (R:AV→Mem→Prop) (hR:∀r:ρ71,t=r→∀u m,Ans ((AV.tup [AV.agg (TTubeNode.E.enc r.1),intA r.2])) u m→R u m):g71 n a b=some t→F71 (lstA TTubeNode.E a) b R:=by
 unfold g71 F71
 refine bind_b fun g c=> ?_
 refine imp (callQ_says (sg36 c)) ?_
 refine imp ex_i64_b ?_
 refine cond_b (fun _=> ?_) (fun _=> ?_)
 ·refine iq (AV.agg [intA (0),intA (0),intA (0),intA (0),intA (0),intA (0)]) rfl ?_
  refine imp (storeW_cells (sz:=6) krE krE rfl rfl (cs:=[intA (0),intA (0),intA (0),intA (0),intA (0),intA (0)]) (cs':=[intA (0),intA (0),intA (0),intA (0),intA (0),intA (0)]) (ty:=129) (by first|rfl|(simp (disch:=first|decide|assumption) only [lk])) rfl rfl) ?_
  exact fun hg=>retN rfl (hR _ (Option.some.inj hg).symm) (fzL_cons (fz_el (E:=TTubeNode.E) _ (⟨0,0,0,0,0,0⟩:TTubeNode)) (fS fzL_nil))
 ·refine bind_b fun h d=> ?_
  refine imp (callQ_says (sg137 d)) ?_
  refine imp exT2_b ?_
  iterate 2 refine imp ex_i64_b ?_
  refine cond_b (fun _=> ?_) (fun _=> ?_)
  ·refine iq (AV.agg [intA (0),intA (0),intA (0),intA (0),intA (0),intA (0)]) rfl ?_
   refine imp (storeW_cells (sz:=6) krE krE rfl rfl (cs:=[intA (0),intA (0),intA (0),intA (0),intA (0),intA (0)]) (cs':=[intA (0),intA (0),intA (0),intA (0),intA (0),intA (0)]) (ty:=129) (by first|rfl|(simp (disch:=first|decide|assumption) only [lk])) rfl rfl) ?_
   exact fun hg=>retN rfl (hR _ (Option.some.inj hg).symm) (fzL_cons (fz_el (E:=TTubeNode.E) _ (⟨0,0,0,0,0,0⟩:TTubeNode)) (fS fzL_nil))
  ·refine cond_b (fun _=> ?_) (fun _=> ?_)
   ·refine iq (AV.agg [intA (0),intA (0),intA (0),intA (0),intA (0),intA (0)]) rfl ?_
    refine imp (storeW_cells (sz:=6) krE krE rfl rfl (cs:=[intA (0),intA (0),intA (0),intA (0),intA (0),intA (0)]) (cs':=[intA (0),intA (0),intA (0),intA (0),intA (0),intA (0)]) (ty:=129) (by first|rfl|(simp (disch:=first|decide|assumption) only [lk])) rfl rfl) ?_
    exact fun hg=>retN rfl (hR _ (Option.some.inj hg).symm) (fzL_cons (fz_el (E:=TTubeNode.E) _ (⟨0,0,0,0,0,0⟩:TTubeNode)) (fS fzL_nil))
   ·refine bind_b fun e f=> ?_
    refine imp (callQ_says (sg138 f)) ?_
    refine imp exA6_b ?_
    iterate 6 refine imp ex_i64_b ?_
    exact fun hg=>retN rfl (hR _ (Option.some.inj hg).symm) (fzL_cons (fz_el (E:=TTubeNode.E) _ e) (fS fzL_nil))
theorem sg71 {n:Nat} {a:List TTubeNode} {b:Int} {t:ρ71} (h:g71 n a b=some t):Says pg KK.gl 71 [lstA TTubeNode.E a,intA b] ((AV.tup [AV.agg (TTubeNode.E.enc t.1),intA t.2])):=
 says_of_own (by first|rfl|simp [cleans,clean,encs_clean,En.cln]) (by first|rfl|simp [cleans,clean,encs_clean,En.cln]) (F71_own (lstA TTubeNode.E a) b _ (g71_ok n a b (Ans ((AV.tup [AV.agg (TTubeNode.E.enc t.1),intA t.2]))) (fun r e u m h=>by rw [e];exact h) h))
/- skyway/plane.Sub -/
theorem g242_ok (n:Nat) (a b:TP) {t:ρ242} (R:AV→Mem→Prop) (hR:∀r:ρ242,t=r→∀u m,Ans ((AV.agg (TP.E.enc r))) u m→R u m):g242 n a b=some t→F242 a.X a.Y b.X b.Y R:=by
 unfold g242 F242
 refine iq (AV.agg [intA (IntKind.wrap .i64 (a.X-b.X)),intA (IntKind.wrap .i64 (a.Y-b.Y))]) rfl ?_
 refine imp (storeW_cells (sz:=2) krE krE rfl rfl (cs:=[intA (0),intA (0)]) (cs':=[intA (IntKind.wrap .i64 (a.X-b.X)),intA (IntKind.wrap .i64 (a.Y-b.Y))]) (ty:=38) (by first|rfl|(simp (disch:=first|decide|assumption) only [lk])) rfl rfl) ?_
 exact fun hg=>ret1 (hR _ (Option.some.inj hg).symm) (fz_el (E:=TP.E) _ (⟨IntKind.wrap .i64 (a.X-b.X),IntKind.wrap .i64 (a.Y-b.Y)⟩:TP))
theorem sg242 {n:Nat} {a:TP} {b:TP} {t:ρ242} (h:g242 n a b=some t):Says pg KK.gl 242 [AV.agg [intA a.X,intA a.Y],AV.agg [intA b.X,intA b.Y]] ((AV.agg (TP.E.enc t))):=
 says_of_own (by first|rfl|simp [cleans,clean,encs_clean,En.cln]) (by first|rfl|simp [cleans,clean,encs_clean,En.cln]) (F242_own a.X a.Y b.X b.Y _ (g242_ok n a b (Ans ((AV.agg (TP.E.enc t)))) (fun r e u m h=>by rw [e];exact h) h))
/- skyway/plane.Dot -/
theorem g326_ok (n:Nat) (a b:TP) {t:ρ326} (R:AV→Mem→Prop) (hR:∀r:ρ326,t=r→∀u m,Ans ((intA r)) u m→R u m):g326 n a b=some t→F326 a.X a.Y b.X b.Y R:=by
 unfold g326 F326
 exact rt1 hR rfl rfl
theorem sg326 {n:Nat} {a:TP} {b:TP} {t:ρ326} (h:g326 n a b=some t):Says pg KK.gl 326 [AV.agg [intA a.X,intA a.Y],AV.agg [intA b.X,intA b.Y]] ((intA t)):=
 says_of_own (by first|rfl|simp [cleans,clean,encs_clean,En.cln]) (by first|rfl|simp [cleans,clean,encs_clean,En.cln]) (F326_own a.X a.Y b.X b.Y _ (g326_ok n a b (Ans ((intA t))) (fun r e u m h=>by rw [e];exact h) h))
/- skyway/plane.Square -/
theorem g277_ok (n:Nat) (a b:TP) {t:ρ277} (R:AV→Mem→Prop) (hR:∀r:ρ277,t=r→∀u m,Ans ((intA r)) u m→R u m):g277 n a b=some t→F277 a.X a.Y b.X b.Y R:=by
 unfold g277 F277
 refine bind_b fun e c=> ?_
 refine imp (callQ_says (sg242 c)) ?_
 refine imp exA2_b ?_
 iterate 2 refine imp ex_i64_b ?_
 refine bind_b fun f d=> ?_
 refine imp (callQ_says (sg326 d)) ?_
 refine imp ex_i64_b ?_
 exact rt1 hR rfl rfl
theorem sg277 {n:Nat} {a:TP} {b:TP} {t:ρ277} (h:g277 n a b=some t):Says pg KK.gl 277 [AV.agg [intA a.X,intA a.Y],AV.agg [intA b.X,intA b.Y]] ((intA t)):=
 says_of_own (by first|rfl|simp [cleans,clean,encs_clean,En.cln]) (by first|rfl|simp [cleans,clean,encs_clean,En.cln]) (F277_own a.X a.Y b.X b.Y _ (g277_ok n a b (Ans ((intA t))) (fun r e u m h=>by rw [e];exact h) h))
/- skyway/num.Root -/
theorem B278_0_ok (n:Nat) (a b c d:Int) {t:(Int×Int)⊕ρ278} (R:AV→Mem→Prop) (N0:St→Prop) (hR:∀r:ρ278,t=(.inr r)→∀u m,Ans ((intA r)) u m→R u m) (hN0:∀y:Int×Int,t=(.inl y)→∀s':St,Weak KK 27 0 s' (h278_0 a b y.1 y.2 [])→N0 s'):S278_0 n a b c d=some t→B278_0 a b c d [] R N0:=by
 unfold S278_0 B278_0
 refine cond_b (fun _=> ?_) (fun _=> ?_)
 ·refine cond_b (fun _=> ?_) (fun _=> ?_)
  ·exact fun hg=>hN0 _ (Option.some.inj hg).symm _ (weak_mem [] rfl rfl rfl (oR (oR (oR (oR okW_nil)))) okB_nil')
  ·exact fun hg=>hN0 _ (Option.some.inj hg).symm _ (weak_mem [] rfl rfl rfl (oR (oR (oR (oR okW_nil)))) okB_nil')
 ·exact rt1 hR rfl rfl
theorem L278_0_ok (n:Nat) (a b:Int) {t:ρ278} (R:AV→Mem→Prop) (hR:∀r:ρ278,t=r→∀u m,Ans ((intA r)) u m→R u m) (k:Nat) (x:Int×Int) (hx:iterO (fun y:Int×Int=>S278_0 n a b y.1 y.2) k x=some t) {s:St} (hw:Weak KK 27 0 s (h278_0 a b x.1 x.2 [])):Tri pg KK 27 0 (.loop c278_0) s (q278_0 R):=
 L278_0 R (σ:=Nat×(Int×Int)) (fun z=>iterO (fun y:Int×Int=>S278_0 n a b y.1 y.2) z.1 z.2=some t) (fun z=>a) (fun z=>b) (fun z=>z.2.1) (fun z=>z.2.2) (fun z=>[]) (fun z=>z.1) (by
  rintro ⟨k,y⟩ h
  cases k with
  |zero=>exact (iterO_zero h).elim
  |succ k=>
   obtain ⟨u,c,d,f⟩:=iterO_elim h
   exact B278_0_ok n a b y.1 y.2 R _ (fun r e=>hR r (f _ e).symm) (fun y' e s' hw=>⟨(k,y'),d _ e,Nat.lt_succ_self k,hw⟩) c) (k,x) hx hw
theorem g278_ok (n:Nat) (a:Int) {t:ρ278} (R:AV→Mem→Prop) (hR:∀r:ρ278,t=r→∀u m,Ans ((intA r)) u m→R u m):g278 n a=some t→F278 a R:=by
 unfold g278 F278
 refine cond_b (fun _=> ?_) (fun _=> ?_)
 ·exact rt1 hR rfl rfl
 ·exact fun hg=>L278_0_ok n a (0) R hR n _ hg (weak_mem [] rfl rfl rfl (oR (oR (oR (oR okW_nil)))) okB_nil')
theorem sg278 {n:Nat} {a:Int} {t:ρ278} (h:g278 n a=some t):Says pg KK.gl 278 [intA a] ((intA t)):=
 says_of_own (by first|rfl|simp [cleans,clean,encs_clean,En.cln]) (by first|rfl|simp [cleans,clean,encs_clean,En.cln]) (F278_own a _ (g278_ok n a (Ans ((intA t))) (fun r e u m h=>by rw [e];exact h) h))
/- skyway/plane.Distance -/
theorem g215_ok (n:Nat) (a b:TP) {t:ρ215} (R:AV→Mem→Prop) (hR:∀r:ρ215,t=r→∀u m,Ans ((AV.tup [intA r.1,intA r.2])) u m→R u m):g215 n a b=some t→F215 a.X a.Y b.X b.Y R:=by
 unfold g215 F215
 refine bind_b fun e c=> ?_
 refine imp (callQ_says (sg277 c)) ?_
 refine imp ex_i64_b ?_
 refine bind_b fun f d=> ?_
 refine imp (callQ_says (sg278 d)) ?_
 refine imp ex_i64_b ?_
 refine cond_b (fun _=> ?_) (fun _=> ?_)
 ·exact fun hg=>retN rfl (hR _ (Option.some.inj hg).symm) (fS (fS fzL_nil))
 ·exact fun hg=>retN rfl (hR _ (Option.some.inj hg).symm) (fS (fS fzL_nil))
theorem sg215 {n:Nat} {a:TP} {b:TP} {t:ρ215} (h:g215 n a b=some t):Says pg KK.gl 215 [AV.agg [intA a.X,intA a.Y],AV.agg [intA b.X,intA b.Y]] ((AV.tup [intA t.1,intA t.2])):=
 says_of_own (by first|rfl|simp [cleans,clean,encs_clean,En.cln]) (by first|rfl|simp [cleans,clean,encs_clean,En.cln]) (F215_own a.X a.Y b.X b.Y _ (g215_ok n a b (Ans ((AV.tup [intA t.1,intA t.2]))) (fun r e u m h=>by rw [e];exact h) h))
/- skyway/probe.separated -/
theorem g217_ok (n:Nat) (a b:TTubeNode) (c:TSep) {t:ρ217} (R:AV→Mem→Prop) (hR:∀r:ρ217,t=r→∀u m,Ans ((boolA r)) u m→R u m):g217 n a b c=some t→F217 a.Node_Time a.Node_At_X a.Node_At_Y a.Node_Height a.Radius a.Band b.Node_Time b.Node_At_X b.Node_At_Y b.Node_Height b.Radius b.Band c.Lateral c.Vertical R:=by
 unfold g217 F217
 refine bind_b fun e d=> ?_
 refine imp (callQ_says (sg215 d)) ?_
 refine imp exT2_b ?_
 iterate 2 refine imp ex_i64_b ?_
 refine cond_b (fun _=> ?_) (fun _=> ?_)
 ·exact rt1 hR rfl rfl
 ·refine iq (intA (if (IntKind.wrap .i64 (b.Node_Height-a.Node_Height))>(IntKind.wrap .i64 (a.Node_Height-b.Node_Height)) then (IntKind.wrap .i64 (b.Node_Height-a.Node_Height)) else (IntKind.wrap .i64 (a.Node_Height-b.Node_Height)))) krE ?_
  refine imp ex_i64_b ?_
  exact rt1 hR rfl rfl
theorem sg217 {n:Nat} {a:TTubeNode} {b:TTubeNode} {c:TSep} {t:ρ217} (h:g217 n a b c=some t):Says pg KK.gl 217 [AV.agg [intA a.Node_Time,intA a.Node_At_X,intA a.Node_At_Y,intA a.Node_Height,intA a.Radius,intA a.Band],AV.agg [intA b.Node_Time,intA b.Node_At_X,intA b.Node_At_Y,intA b.Node_Height,intA b.Radius,intA b.Band],AV.agg [intA c.Lateral,intA c.Vertical]] ((boolA t)):=
 says_of_own (by first|rfl|simp [cleans,clean,encs_clean,En.cln]) (by first|rfl|simp [cleans,clean,encs_clean,En.cln]) (F217_own a.Node_Time a.Node_At_X a.Node_At_Y a.Node_Height a.Radius a.Band b.Node_Time b.Node_At_X b.Node_At_Y b.Node_Height b.Radius b.Band c.Lateral c.Vertical _ (g217_ok n a b c (Ans ((boolA t))) (fun r e u m h=>by rw [e];exact h) h))
/- skyway/probe.spans -/
theorem B145_0_ok (n:Nat) (e f:List TTubeNode) (c9 c d a:Int) (b:List TSpan) {t:(Int×List TSpan)⊕ρ145} (R:AV→Mem→Prop) (N0:St→Prop) (hR:∀r:ρ145,t=(.inr r)→∀u m,Ans ((lstA TSpan.E r)) u m→R u m) (hN0:∀y:Int×List TSpan,t=(.inl y)→∀s':St,Weak KK 73 0 s' (h145_0 (lstA TTubeNode.E e) (lstA TTubeNode.E f) AV.nils (ownV TSpan.E 90000 y.2) c9 y.1 c d [(90000,ownB TSpan.E 25 y.2)])→N0 s'):S145_0 n e f c9 c d a b=some t→B145_0 (lstA TTubeNode.E e) (lstA TTubeNode.E f) AV.nils (ownV TSpan.E 90000 b) c9 a c d [(90000,ownB TSpan.E 25 b)] R N0:=by
 unfold S145_0 B145_0
 refine cond_b (fun _=> ?_) (fun _=> ?_)
 ·refine bind_b fun x k=> ?_
  refine imp (callQ_says (sg71 k)) ?_
  refine imp exT2_b ?_
  refine imp exA6_b ?_
  iterate 7 refine imp ex_i64_b ?_
  refine bind_b fun z p=> ?_
  refine imp (callQ_says (sg71 p)) ?_
  refine imp exT2_b ?_
  refine imp exA6_b ?_
  iterate 7 refine imp ex_i64_b ?_
  refine bind_b fun aa q=> ?_
  refine imp (callQ_says (sg217 q)) ?_
  refine imp exB_b ?_
  refine cond_b (fun _=> ?_) (fun _=> ?_)
  ·exact fun hg=>hN0 _ (Option.some.inj hg).symm _ (weak_mem [(90000,90000),(0,0)] rfl rfl rfl (okW_cons (ent_lst (E:=TTubeNode.E) _ false) (okW_cons (ent_lst (E:=TTubeNode.E) _ false) (oR (oR (okW_cons (ent_own (E:=TSpan.E) (id:=90000) (l':=b) rfl rfl) (oR (oR okW_nil))))))) (okB_cons (okB_cells (cs:=[intA c,intA d]) (ty:=78) rfl (show mget _ 0=_ from (by first|rfl|(simp (disch:=first|decide|assumption) only [lk])))) (okB_cons (okB_own (E:=TSpan.E) (ty:=25) (l':=b) rfl (show mget _ 90000=_ from (by first|rfl|(simp (disch:=first|decide|assumption) only [lk])))) okB_nil')))
  ·refine imp (opP_of (show _=some ((intA (b.length:Int)),[]) from len_own)) ?_
   refine imp ex_i64_b ?_
   refine cond_b (fun _=> ?_) (fun _=> ?_)
   ·refine bind_b fun s g=> ?_
    refine iq (AV.ptr 90000 ((((IntKind.wrap .i64 ((b.length:Int)-(1))):Int).toNat)*2+0)) (idx_own (E:=TSpan.E) rfl g) ?_
    refine iq (AV.ptr 90000 ((((IntKind.wrap .i64 ((b.length:Int)-(1))):Int).toNat)*2+1)) rfl ?_
    refine iq (intA s.To) (ldS_blk (E:=TSpan.E) (l:=b) (ty:=25) (o:=1) (own_some (ty:=25) (by first|rfl|(simp (disch:=first|decide|assumption) only [lk])) (getI_some g).2) (getI_some g).2 rfl (by decide) rfl) ?_
    refine imp ex_i64_b ?_
    refine cond_b (fun _=> ?_) (fun _=> ?_)
    ·refine bind_b fun h j=> ?_
     refine iq (AV.ptr 90000 ((((IntKind.wrap .i64 ((b.length:Int)-(1))):Int).toNat)*2+0)) (idx_own (E:=TSpan.E) rfl j) ?_
     refine iq (AV.ptr 90000 ((((IntKind.wrap .i64 ((b.length:Int)-(1))):Int).toNat)*2+1)) rfl ?_
     refine imp (storeW_elO (E:=TSpan.E) (l:=b) (i:=(((IntKind.wrap .i64 ((b.length:Int)-(1))):Int).toNat)) (o:=1) (y:=(⟨h.From,IntKind.wrap .i64 (a+(1))⟩:TSpan)) (ty:=25) krE krE rfl (by first|rfl|(simp (disch:=first|decide|assumption) only [lk])) (getI_some j).2 rfl (by decide) rfl) ?_
     exact fun hg=>hN0 _ (Option.some.inj hg).symm _ (weak_mem [(90000,90000),(0,0)] rfl rfl rfl (okW_cons (ent_lst (E:=TTubeNode.E) _ false) (okW_cons (ent_lst (E:=TTubeNode.E) _ false) (oR (oR (okW_cons (ent_own (E:=TSpan.E) (id:=90000) (l':=(b.set (((IntKind.wrap .i64 ((b.length:Int)-(1))):Int).toNat) (⟨h.From,IntKind.wrap .i64 (a+(1))⟩:TSpan))) (by first|rfl|omega|(simp;done)|(simp;omega)) rfl) (oR (oR okW_nil))))))) (okB_cons (okB_cells (cs:=[intA c,intA d]) (ty:=78) rfl (show mget _ 0=_ from (by first|rfl|(simp (disch:=first|decide|assumption) only [lk])))) (okB_cons (okB_own (E:=TSpan.E) (ty:=25) (l':=(b.set (((IntKind.wrap .i64 ((b.length:Int)-(1))):Int).toNat) (⟨h.From,IntKind.wrap .i64 (a+(1))⟩:TSpan))) rfl (show mget _ 90000=_ from (by first|rfl|(simp (disch:=first|decide|assumption) only [lk])))) okB_nil')))
    ·refine iq (AV.agg [intA a,intA (IntKind.wrap .i64 (a+(1)))]) rfl ?_
     refine imp (opN_of (show _=some ((blkV TSpan.E 100234 ([(⟨a,IntKind.wrap .i64 (a+(1))⟩:TSpan)]:List TSpan)),[(100234,some ⟨encs TSpan.E ([(⟨a,IntKind.wrap .i64 (a+(1))⟩:TSpan)]:List TSpan),25⟩)]) from rfl)) ?_
     refine bind_b fun ab v=> ?_
     refine imp (opN_of (show _=some ((ownV TSpan.E 100235 (b++([(⟨a,IntKind.wrap .i64 (a+(1))⟩:TSpan)]:List TSpan))),(appW TSpan.E 100235 90000 25 b ([(⟨a,IntKind.wrap .i64 (a+(1))⟩:TSpan)]:List TSpan))) from (app_own (E:=TSpan.E) (l':=b) (xs:=([(⟨a,IntKind.wrap .i64 (a+(1))⟩:TSpan)]:List TSpan)) rfl rfl (cellsOf_blk (E:=TSpan.E) (ty:=25) rfl rfl (by first|rfl|(simp (disch:=first|decide|assumption) only [lk]))) asE rfl (fun hne=>Eq.trans (by first|rfl|(simp (disch:=first|decide|assumption) only [lk])) (ownB_ne hne)) v))) ?_
     exact fun hg=>hN0 _ (Option.some.inj hg).symm _ (weak_mem [(90000,100235),(0,0)] rfl rfl rfl (okW_cons (ent_lst (E:=TTubeNode.E) _ false) (okW_cons (ent_lst (E:=TTubeNode.E) _ false) (oR (oR (okW_cons (ent_own (E:=TSpan.E) (id:=100235) (l':=(b++([(⟨a,IntKind.wrap .i64 (a+(1))⟩:TSpan)]:List TSpan))) rfl rfl) (oR (oR okW_nil))))))) (okB_cons (okB_cells (cs:=[intA c,intA d]) (ty:=78) rfl (show mget _ 0=_ from (by first|rfl|(simp (disch:=first|decide|assumption) only [lk])))) (okB_cons (okB_own (E:=TSpan.E) (ty:=25) (l':=(b++([(⟨a,IntKind.wrap .i64 (a+(1))⟩:TSpan)]:List TSpan))) rfl (show mget _ 100235=_ from (by first|rfl|(simp (disch:=first|decide|assumption) only [lk])))) okB_nil')))
   ·refine iq (AV.agg [intA a,intA (IntKind.wrap .i64 (a+(1)))]) rfl ?_
    refine imp (opN_of (show _=some ((blkV TSpan.E 100226 ([(⟨a,IntKind.wrap .i64 (a+(1))⟩:TSpan)]:List TSpan)),[(100226,some ⟨encs TSpan.E ([(⟨a,IntKind.wrap .i64 (a+(1))⟩:TSpan)]:List TSpan),25⟩)]) from rfl)) ?_
    refine bind_b fun ad w=> ?_
    refine imp (opN_of (show _=some ((ownV TSpan.E 100227 (b++([(⟨a,IntKind.wrap .i64 (a+(1))⟩:TSpan)]:List TSpan))),(appW TSpan.E 100227 90000 25 b ([(⟨a,IntKind.wrap .i64 (a+(1))⟩:TSpan)]:List TSpan))) from (app_own (E:=TSpan.E) (l':=b) (xs:=([(⟨a,IntKind.wrap .i64 (a+(1))⟩:TSpan)]:List TSpan)) rfl rfl (cellsOf_blk (E:=TSpan.E) (ty:=25) rfl rfl (by first|rfl|(simp (disch:=first|decide|assumption) only [lk]))) asE rfl (fun hne=>Eq.trans (by first|rfl|(simp (disch:=first|decide|assumption) only [lk])) (ownB_ne hne)) w))) ?_
    exact fun hg=>hN0 _ (Option.some.inj hg).symm _ (weak_mem [(90000,100227),(0,0)] rfl rfl rfl (okW_cons (ent_lst (E:=TTubeNode.E) _ false) (okW_cons (ent_lst (E:=TTubeNode.E) _ false) (oR (oR (okW_cons (ent_own (E:=TSpan.E) (id:=100227) (l':=(b++([(⟨a,IntKind.wrap .i64 (a+(1))⟩:TSpan)]:List TSpan))) rfl rfl) (oR (oR okW_nil))))))) (okB_cons (okB_cells (cs:=[intA c,intA d]) (ty:=78) rfl (show mget _ 0=_ from (by first|rfl|(simp (disch:=first|decide|assumption) only [lk])))) (okB_cons (okB_own (E:=TSpan.E) (ty:=25) (l':=(b++([(⟨a,IntKind.wrap .i64 (a+(1))⟩:TSpan)]:List TSpan))) rfl (show mget _ 100227=_ from (by first|rfl|(simp (disch:=first|decide|assumption) only [lk])))) okB_nil')))
 ·exact fun hg=>ret1 (hR _ (Option.some.inj hg).symm) (fz_own (E:=TSpan.E) (ty:=25) (l':=b) _ rfl (by first|rfl|(simp (disch:=first|decide|assumption) only [lk])))
theorem L145_0_ok (n:Nat) (a b:List TTubeNode) (c9 c d:Int) {t:ρ145} (R:AV→Mem→Prop) (hR:∀r:ρ145,t=r→∀u m,Ans ((lstA TSpan.E r)) u m→R u m) (k:Nat) (x:Int×List TSpan) (hx:iterO (fun y:Int×List TSpan=>S145_0 n a b c9 c d y.1 y.2) k x=some t) {s:St} (hw:Weak KK 73 0 s (h145_0 (lstA TTubeNode.E a) (lstA TTubeNode.E b) AV.nils (ownV TSpan.E 90000 x.2) c9 x.1 c d [(90000,ownB TSpan.E 25 x.2)])):Tri pg KK 73 0 (.loop c145_0) s (q145_0 R):=
 L145_0 R (σ:=Nat×(Int×List TSpan)) (fun z=>iterO (fun y:Int×List TSpan=>S145_0 n a b c9 c d y.1 y.2) z.1 z.2=some t) (fun z=>(lstA TTubeNode.E a)) (fun z=>(lstA TTubeNode.E b)) (fun z=>AV.nils) (fun z=>(ownV TSpan.E 90000 z.2.2)) (fun z=>c9) (fun z=>z.2.1) (fun z=>c) (fun z=>d) (fun z=>[(90000,ownB TSpan.E 25 z.2.2)]) (fun z=>z.1) (by
  rintro ⟨k,y⟩ h
  cases k with
  |zero=>exact (iterO_zero h).elim
  |succ k=>
   obtain ⟨u,f,g,i⟩:=iterO_elim h
   exact B145_0_ok n a b c9 c d y.1 y.2 R _ (fun r e=>hR r (i _ e).symm) (fun y' e s' hw=>⟨(k,y'),g _ e,Nat.lt_succ_self k,hw⟩) f) (k,x) hx hw
theorem g145_ok (n:Nat) (b c:List TTubeNode) (a:TSep) {t:ρ145} (R:AV→Mem→Prop) (hR:∀r:ρ145,t=r→∀u m,Ans ((lstA TSpan.E r)) u m→R u m):g145 n b c a=some t→F145 (lstA TTubeNode.E b) (lstA TTubeNode.E c) a.Lateral a.Vertical R:=by
 unfold g145 F145
 refine bind_b fun d e=> ?_
 refine imp (callQ_says (sg216 e)) ?_
 refine imp exT2_b ?_
 iterate 2 refine imp ex_i64_b ?_
 exact fun hg=>L145_0_ok n b c d.2 a.Lateral a.Vertical R hR n _ hg (weak_mem [(90000,89500),(0,0)] rfl rfl rfl (okW_cons (ent_lst (E:=TTubeNode.E) _ false) (okW_cons (ent_lst (E:=TTubeNode.E) _ false) (oR (oR (okW_cons ent_nils_own (oR (oR okW_nil))))))) (okB_cons (okB_cells (cs:=[intA a.Lateral,intA a.Vertical]) (ty:=78) rfl (show mget _ 0=_ from (by first|rfl|(simp (disch:=first|decide|assumption) only [lk])))) (okB_cons okB_nil okB_nil')))
theorem sg145 {n:Nat} {b:List TTubeNode} {c:List TTubeNode} {a:TSep} {t:ρ145} (h:g145 n b c a=some t):Says pg KK.gl 145 [lstA TTubeNode.E b,lstA TTubeNode.E c,AV.agg [intA a.Lateral,intA a.Vertical]] ((lstA TSpan.E t)):=
 says_of_own (by first|rfl|simp [cleans,clean,encs_clean,En.cln]) (by first|rfl|simp [cleans,clean,encs_clean,En.cln]) (F145_own (lstA TTubeNode.E b) (lstA TTubeNode.E c) a.Lateral a.Vertical _ (g145_ok n b c a (Ans ((lstA TSpan.E t))) (fun r e u m h=>by rw [e];exact h) h))
/- skyway/probe.Pair -/
theorem g74_ok (n:Nat) (c d:List TTubeNode) (a:TSep) {t:ρ74} (R:AV→Mem→Prop) (hR:∀r:ρ74,t=r→∀u m,Ans ((AV.tup [lstA TSpan.E r.1,intA r.2])) u m→R u m):g74 n c d a=some t→F74 (lstA TTubeNode.E c) (lstA TTubeNode.E d) a.Lateral a.Vertical R:=by
 unfold g74 F74
 refine imp (opN_of (show _=some ((blkV (lstE TTubeNode.E) 6 ([c,d]:List (List TTubeNode))),[(6,some ⟨encs (lstE TTubeNode.E) ([c,d]:List (List TTubeNode)),34⟩)]) from rfl)) ?_
 refine bind_b fun g e=> ?_
 refine imp (callQ_pure (pure_snapN (snL_cons (sn_agg _ (snL_cons (sn_sc _ _) (snL_cons (sn_sc _ _) snL_nil))) (snL_cons (sn_blk (E:=(lstE TTubeNode.E)) (ty:=34) (l':=([c,d]:List (List TTubeNode))) _ (lstE.nf TTubeNode.E) rfl (by first|rfl|(simp (disch:=first|decide|assumption) only [lk]))) snL_nil)) (sg144 e) rfl)) ?_
 refine imp ex_i64_b ?_
 refine cond_b (fun _=> ?_) (fun _=> ?_)
 ·exact fun hg=>retN rfl (hR _ (Option.some.inj hg).symm) (fzL_cons (fz_nils (E:=TSpan.E) _) (fS fzL_nil))
 ·refine iq (AV.agg [intA a.Lateral,intA a.Vertical]) (ldA_ptr (b:=⟨[intA a.Lateral,intA a.Vertical],78⟩) (by first|rfl|(simp (disch:=first|decide|assumption) only [lk])) rfl) ?_
  refine imp exA2_b ?_
  iterate 2 refine imp ex_i64_b ?_
  refine bind_b fun h f=> ?_
  refine imp (callQ_says (sg145 f)) ?_
  exact fun hg=>retN rfl (hR _ (Option.some.inj hg).symm) (fzL_cons (fz_lst (E:=TSpan.E) _ _ false) (fS fzL_nil))
theorem sg74 {n:Nat} {b:List TTubeNode} {c:List TTubeNode} {a:TSep} {t:ρ74} (h:g74 n b c a=some t):Says pg KK.gl 74 [lstA TTubeNode.E b,lstA TTubeNode.E c,AV.agg [intA a.Lateral,intA a.Vertical]] ((AV.tup [lstA TSpan.E t.1,intA t.2])):=
 says_of_own (by first|rfl|simp [cleans,clean,encs_clean,En.cln]) (by first|rfl|simp [cleans,clean,encs_clean,En.cln]) (F74_own (lstA TTubeNode.E b) (lstA TTubeNode.E c) a.Lateral a.Vertical _ (g74_ok n b c a (Ans ((AV.tup [lstA TSpan.E t.1,intA t.2]))) (fun r e u m h=>by rw [e];exact h) h))
/- skyway/probe.First -/
theorem g23_ok (n:Nat) (c d:List TTubeNode) (b:TSep) {t:ρ23} (R:AV→Mem→Prop) (hR:∀r:ρ23,t=r→∀u m,Ans ((AV.tup [intA r.1,intA r.2])) u m→R u m):g23 n c d b=some t→F23 (lstA TTubeNode.E c) (lstA TTubeNode.E d) b.Lateral b.Vertical R:=by
 unfold g23 F23
 refine bind_b fun e f=> ?_
 refine imp (callQ_says (sg74 f)) ?_
 refine imp exT2_b ?_
 refine imp ex_i64_b ?_
 refine cond_b (fun _=> ?_) (fun _=> ?_)
 ·exact fun hg=>retN rfl (hR _ (Option.some.inj hg).symm) (fS (fS fzL_nil))
 ·refine iq (intA (e.1.length:Int)) rfl ?_
  refine imp ex_i64_b ?_
  refine cond_b (fun _=> ?_) (fun _=> ?_)
  ·exact fun hg=>retN rfl (hR _ (Option.some.inj hg).symm) (fS (fS fzL_nil))
  ·refine bind_b fun a g=> ?_
   refine iq (AV.ept [intA a.From,intA a.To] 0) (idx_lst (E:=TSpan.E) rfl g) ?_
   refine iq (AV.ept [intA a.From,intA a.To] 0) rfl ?_
   refine iq (intA a.From) rfl ?_
   refine imp ex_i64_b ?_
   exact fun hg=>retN rfl (hR _ (Option.some.inj hg).symm) (fS (fS fzL_nil))
theorem sg23 {n:Nat} {b:List TTubeNode} {c:List TTubeNode} {a:TSep} {t:ρ23} (h:g23 n b c a=some t):Says pg KK.gl 23 [lstA TTubeNode.E b,lstA TTubeNode.E c,AV.agg [intA a.Lateral,intA a.Vertical]] ((AV.tup [intA t.1,intA t.2])):=
 says_of_own (by first|rfl|simp [cleans,clean,encs_clean,En.cln]) (by first|rfl|simp [cleans,clean,encs_clean,En.cln]) (F23_own (lstA TTubeNode.E b) (lstA TTubeNode.E c) a.Lateral a.Vertical _ (g23_ok n b c a (Ans ((AV.tup [intA t.1,intA t.2]))) (fun r e u m h=>by rw [e];exact h) h))
end Go.Proofs.YtlenkbgeomojnaaGreatDoor
