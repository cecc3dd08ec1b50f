/- A part. -/
import Derived.Test.YtkdodbfnocdkdaaGreatDoorPF
import Derived.KernelRfl
set_option linter.unusedVariables false
set_option linter.unusedSimpArgs false
namespace Go.Proofs.YtkdodbfnocdkdaaGreatDoor
open Go.RowKit
section
variable {α:Type} {E:En α} {P:Program} {K:Kq} {gl:Nat→Option (List AV)}
def Nh (E:En α) (id:Nat) (l:List α):AV:=.sl id 0 E.size l.length l.length false
def O1 (E:En α) (ty:Nat) (l':List α) (u:AV) (m:Mem):Prop:=∃k cap ex rest,u=.sl k 0 E.size l'.length cap ex∧Al m k=some ⟨A0 E l'++rest,ty⟩
def less (look:Nat→Option Be) (id:Nat):Nat→Option Be:=fun j=>bif Nat.beq j id then none else look j
def Pb (P:Program) (gl:Nat→Option (List AV)) (m:Mem) (nx:Nat) (f:FuncId) (args:List AV) (R:AV→Mem→Prop):Prop:=
 E8 P f∧∀(B:Nat) (c:Cx) (vals:List Value),Good B c→Cw gl c→(∀id,c.M id=Al m id)→(∀id,c.al id→id<nx)→Bm c args vals→Calls P f vals.toArray c.w (fun e w'=>∃v m' nx',R v m'∧Hm B {c with al:=fun _=>False} v m' nx' e w')
theorem Yk (c:Cx):Step {c with al:=fun _=>False} c:=⟨rfl,rfl,rfl,Nat.le_refl _,fun _ _ _=>rfl,fun _ _ h=>h,fun _ h=>h.elim,fun _ h=>h.elim,fun _=>Iff.rfl,fun b arr T h=>⟨arr,h,rfl⟩,Nat.le_refl _⟩
theorem Acd {m:Mem} {nx:Nat} {f:FuncId} {args:List AV} {R:AV→Mem→Prop} (h:C1 P gl m nx f args R):Pb P gl m nx f args R:=
 ⟨h.1,fun B c vals g hgl hM ha hr=>(h.2 B c vals g hgl hM ha hr).mono fun e w' ⟨v,m',h1,v',c',q1,q2,q3,q4,q5,q6,q7⟩=>⟨v,m',_,h1,v',c',q1,q2,q3,(Yk c).trans q4,q5,q6,q7⟩⟩
theorem P0 (hm:P.follows .mixedOrders=true) {f:FuncId} {fn:Func} {code:Code} (hf:P.funcs[f]?=some fn) (hb:fn.body=some code) (hn:(fn.name== "runtime.NumGoroutine")=false) {args:List AV} (hl:Nat.ble args.length fn.ntmps=true) {m:Mem} {nx:Nat} {R:AV→Mem→Prop} {X:Prop}
  (hX:W P K fn.ntmps 0 code ⟨Eu args 0,m,nx⟩ (Cm P fn R)=X) (h:X):Pb P K.gl m nx f args R:=by
 have h:=hX.mpr h
 refine ⟨⟨fn,code,hf,hb,hn⟩,fun B c vals g gl hM ha hr=> ?_⟩
 have tri:Ff P K fn.ntmps 0 code ⟨Eu args 0,m,nx⟩ (fun x s=>(x=.normal∨x=.ret)∧∃v,Fw P fn s=some v∧R v s.m):=(aC hm code _ _ h).mono fun x s hq=>by
  cases x with
  |normal=>
   simp only [Cm] at hq
   split at hq
   ·rename_i v hv;exact ⟨.inl rfl,v,hv,hq⟩
   ·exact hq.elim
  |ret=>
   simp only [Cm] at hq
   split at hq
   ·rename_i v hv;exact ⟨.inr rfl,v,hv,hq⟩
   ·exact hq.elim
  |exit i=>exact hq.elim
 have hl:=Nat.le_of_ble_eq_true hl
 refine calls_of_wp hf hb ?_
 have hlen:=hr.length
 have sr:SR K.gl B fn.ntmps c ⟨Eu args 0,m,nx⟩ {tmps:=vals.toArray++Array.replicate (fn.ntmps-vals.toArray.size) undef,defers:=[]}:=by
  refine ⟨g,fun t=> ?_,hM,ha,by simp;omega,rfl,gl⟩
  simp only [Sc,Nat.zero_le,if_true,Nat.sub_zero]
  rcases Nat.lt_or_ge t args.length with h|h
  ·obtain ⟨v,hv,hx⟩:=hr.get (k:=t) (x:=args[t]) (List.getElem?_eq_getElem h)
   have e1:args.getD t .Es=args[t]:=by simp [List.getD_eq_getElem?_getD,h]
   rw [e1]
   have:(vals.toArray++Array.replicate (fn.ntmps-vals.toArray.size) undef).getD t undef=v:=by
    rw [Array.getD_eq_getD_getElem?,Array.getElem?_append_left (by simp;omega)]
    simp [hv]
   simp only [Act.eval,this]
   exact hx
  ·have e1:args.getD t .Es=.Es:=by simp [List.getD_eq_getElem?_getD,h]
   rw [e1];exact .Es _
 refine wp_mono (tri B {c with al:=fun _=>False} c _ sr (Yk c) (fun _ h=>h.elim)) ?_
 rintro ex a' w' ⟨x,s,c',rfl,⟨hx,v,hv,hR⟩,sr',rfl,st⟩
 obtain ⟨v',h1,h2⟩:=Ut sr' hv
 have post:a'.defers=[]∧∃v,(results fn a'.tmps).run P c'.w=.ok v c'.w∧∃v_1 m' nx',R v_1 m'∧Hm B {c with al:=fun _=>False} v_1 m' nx' (.returned v) c'.w:=
  ⟨sr'.df,v',h1,v,s.m,s.nx,hR,v',c',rfl,rfl,h2,st,sr'.g,sr'.m,sr'.al⟩
 rcases hx with rfl|rfl
 ·exact post
 ·exact post
theorem kC {n id ty:Nat} {look:Nat→Option Be} {f:FuncId} {l l0 l':List α} {args ar:List AV} (hE:ScE E) (hl:l0.length=l.length) (hne:l≠[]) (hb:look id=Cn E ty l) (ha:aV (less look id) 6 args ar)
  (h:Pb P gl [(0,some ⟨A0 E l,ty⟩)] 1 f (.sl 0 0 E.size l.length l.length false::ar) (O1 E ty l')):
  Dq P gl look n f (Bh E id l0::args) (Nh E n l') [(n,some ⟨A0 E l',ty⟩),(id,none)]:=by
 refine ⟨h.1,fun B c vals g hgl hn hlk hr=> ?_⟩
 have hl0:l0≠[]:=by rintro rfl;exact hne (List.eq_nil_of_length_eq_zero hl.symm)
 rw [Fj hl0,hl] at hr
 rw [C7 hne] at hb
 have hM:=hlk id _ hb
 have hfid:=g.lt hM
 have hidn:id≠n:=fun e=>hn (e ▸ (g.low id _ hM).2)
 cases hr with
 |cons hv hr=>
  rename_i v vals
  let c1:Cx:={w:=c.w,f:=fun _=>c.f id,al:=fun j=>j=0,M:=fun j=>Al [(0,some ⟨A0 E l,ty⟩)] j,no:=c.no}
  have own1:∀b,c1.own b→b=c.f id:=by
   rintro b ⟨j,By,h1,h2⟩
   exact h2.symm
  have hst:∀b,c.Bx b→c1.Bx b:=fun b ⟨h1,h2,h3⟩=>⟨h1,fun ho=>h2 (own1 b ho ▸ ⟨id,_,hM,rfl⟩),h3⟩
  have g1:Good B c1:=by
   have hj:∀j By,c1.M j=some By→j=0∧By=⟨A0 E l,ty⟩:=by
    intro j By h
    have h:Al [(0,some ⟨A0 E l,ty⟩)] j=some By:=h
    unfold Al at h
    cases hq:Nat.beq 0 j with
    |true=>rw [hq] at h;exact ⟨(Nat.eq_of_beq_eq_true hq).symm,(Option.some.inj h).symm⟩
    |false=>rw [hq] at h;simp [Al] at h
   refine ⟨g.hB,fun j By h=> ?_,fun j By h=> ?_,g.Jg,fun j j' By blk' h h' _=> ?_⟩
   ·exact ⟨(g.low id _ hM).1,(hj j By h).1⟩
   ·obtain ⟨rfl,rfl⟩:=hj j By h
    obtain ⟨arr,vs,rest,q1,q2,q3⟩:=g.By id _ hM
    exact ⟨arr,vs,rest,q1,q2,Ka (Hp hE l) q3⟩
   ·rw [(hj j By h).1,(hj j' blk' h').1]
  have r0:Bo c1 (.sl 0 0 E.size l.length l.length false) v:=by
   cases hv with
   |sl ha hb hs hk hc he hm=>exact .sl (c:=c1) (id:=0) rfl hb hs hk hc he hm
  have rr:Bm c1 ar vals:=by
   obtain ⟨us,h1,h2⟩:=Ix 6 ha
   have hll:∀j b,less look id j=some b→c.M j=some b∧j≠id:=by
    intro j b h
    unfold less at h
    cases e:Nat.beq j id with
    |true=>rw [e] at h;cases h
    |false=>rw [e] at h;exact ⟨hlk j b h,Nat.ne_of_beq_eq_false e⟩
   have:Bm c1 us vals:=E4 (fun z u y u' r h=>Sa (c:=c) (c0:=c1) g rfl hst (fun j b hb=>by
    obtain ⟨k1,k2⟩:=hll j b hb
    have hlow:=(g.low j b k1).1
    refine ⟨g.lt k1,fun ho=>k2 (g.inj j id b _ k1 hM (own1 _ ho)),fun hn=> ?_⟩
    have:=g.Jg _ hn
    omega) (fun j b h=>(hll j b h).1) 6 r h) hr h1
   rw [← h2];exact F4 this
  refine (h.2 B c1 (v::vals) g1 (Cw.Ca (c:=c) rfl hst hgl) (fun _=>rfl) (fun j hj=>by have:j=0:=hj;omega) (.cons r0 rr)).mono ?_
  rintro e w' ⟨u,m,nx',⟨k,cap,ex,rest,rfl,hk⟩,v',c2,rfl,rfl,k1,st,g2,k4,k5⟩
  have hk2:c2.M k=some ⟨A0 E l'++rest,ty⟩:=by rw [k4];exact hk
  have hlow2:=(g2.low k _ hk2).1
  have hsz:c.w.heap.size≤c2.w.heap.size:=st.size
  have hfk:=g2.lt hk2
  have hwhere:c2.f k=c.f id∨c.w.heap.size≤c2.f k:=by
   rcases Nat.lt_or_ge (c2.f k) c.w.heap.size with hlt|hge
   ·exact .inl (own1 _ (st.own _ hlt ⟨k,_,hk2,rfl⟩))
   ·exact .inr hge
  let c':Cx:={w:=c2.w,f:=fun i=>if i=n then c2.f k else c.f i,al:=fun i=>c.al i∨i=n,M:=Wn c.M [(n,some ⟨A0 E l',ty⟩),(id,none)],no:=c.no}
  have hM':∀i,c'.M i=if i=id then none else if i=n then some ⟨A0 E l',ty⟩ else c.M i:=fun i=>rfl
  have hMi:∀i By,c'.M i=some By→(i=n∧By=⟨A0 E l',ty⟩)∨(i≠n∧i≠id∧c.M i=some By):=by
   intro i By h
   rw [hM'] at h
   by_cases e1:i=id
   ·rw [if_pos e1] at h;cases h
   ·rw [if_neg e1] at h
    by_cases e2:i=n
    ·rw [if_pos e2] at h;exact .inl ⟨e2,(Option.some.inj h).symm⟩
    ·rw [if_neg e2] at h;exact .inr ⟨e2,e1,h⟩
  have own':∀x,c'.own x→c.own x∨x=c2.f k:=by
   rintro x ⟨i,By,h1,h2⟩
   rcases hMi i By h1 with ⟨e,-⟩|⟨e,-,h3⟩
   ·right;simp only [c',e,if_true] at h2;exact h2.symm
   ·left;simp only [c',e,if_false] at h2;exact ⟨i,By,h3,h2⟩
  have stp:Step c c':=by
   refine ⟨st.os,st.tape,st.output,st.size,fun x hx ho=>st.By x hx (fun h=>ho (own1 x h ▸ ⟨id,_,hM,rfl⟩)),fun x hx ho=> ?_,fun i hi=> ?_,fun i hi=> .inl hi,fun _=>Iff.rfl,st.Xm,st.drawn⟩
   ·rcases own' x ho with h|h
    ·exact h
    ·have hx':x<c.w.heap.size:=hx
     rcases hwhere with h2|h2
     ·exact ⟨id,_,hM,by rw [h,h2]⟩
     ·omega
   ·have:i≠n:=fun h=>hn (h ▸ hi)
    simp [c',this]
  refine ⟨v',c',rfl,rfl,?_,stp,⟨Nat.le_trans g.hB hsz,fun i By h=> ?_,fun i By h=> ?_,g.Jg,fun i i' By blk' h h' hf=> ?_⟩,fun i=>rfl,fun i h=>h,fun i h=> .inl h⟩
  ·cases k1 with
   |sl ha hb hs hk hc he hm=>
    have:=Bo.sl (c:=c') (id:=n) (off:=0) (esz:=E.size) (n:=l'.length) (cap:=l'.length) (ex:=false) (.inr rfl) (by simp only [c',if_true];exact hb) hs (Nat.le_refl _) (Nat.le_trans hk hc) (fun h=>by cases h) hm
    simpa [c',Nh] using this
  ·rcases hMi i By h with ⟨e,-⟩|⟨e,-,h3⟩
   ·simp only [c',e,if_true];exact ⟨hlow2,.inr trivial⟩
   ·simp only [c',e,if_false];exact ⟨(g.low i By h3).1,.inl (g.low i By h3).2⟩
  ·rcases hMi i By h with ⟨e,rfl⟩|⟨e,e2,h3⟩
   ·obtain ⟨arr,vs,rst,q1,q2,q3⟩:=g2.By k _ hk2
    refine ⟨arr,vs.take (A0 E l').length,vs.drop (A0 E l').length++rst,by simp only [c',e,if_true];exact q1,by rw [← List.append_assoc,List.take_append_drop];exact q2,?_⟩
    have:=q3.take (A0 E l').length
    rw [List.take_left] at this
    exact Ka (Hp hE l') this
   ·obtain ⟨arr,vs,rst,q1,q2,q3⟩:=g.By i By h3
    refine ⟨arr,vs,rst,?_,q2,q3.step stp⟩
    simp only [c',e,if_false]
    exact (st.By _ (E9 q1) (fun ho=>e2 (g.inj i id By _ h3 hM (own1 _ ho)))).trans q1
  ·rcases hMi i By h with ⟨e1,-⟩|⟨e1,e2,h3⟩<;>rcases hMi i' blk' h' with ⟨e3,-⟩|⟨e3,e4,h5⟩
   ·rw [e1,e3]
   ·exfalso
    have hlt:=g.lt h5
    simp only [c',e1,e3,if_true,if_false] at hf
    rcases hwhere with h2|h2
    ·exact e4 (g.inj i' id blk' _ h5 hM (by rw [← hf,h2]))
    ·omega
   ·exfalso
    have hlt:=g.lt h3
    simp only [c',e1,e3,if_true,if_false] at hf
    rcases hwhere with h2|h2
    ·exact e2 (g.inj i id By _ h3 hM (by rw [hf,h2]))
    ·omega
   ·simp only [c',e1,e3,if_false] at hf
    exact g.inj i i' By blk' h3 h5 hf
def bX {α:Type} (by_:Nat) (l:List α) (i j:Int):Option (List α):=if 0≤i∧i<j∧j≤l.length∧l.length*by_≤140737488355328∧l.length≤4611686018427387904 then some (l.take i.toNat++l.drop j.toNat) else none
theorem J5 {t yt ty n e sz:Nat} {look:Nat→Option Be} (hu:P.underlying t=some (.slice e)) (hz:Df P e=some sz) {id off esz k cap:Nat} {ex:Bool} {x y z:AV}:
  Ce P (.slice t (.tmp 0) (some (.tmp 1)) (some (.tmp 2)) (some (.tmp 3))) ty [.sl id off esz k cap ex,x,y,z] look n=Nf sz (.sl id off esz k cap ex) (some x) (some y) (some z)∧Ce P (.slice t (.tmp 0) none (some (.tmp 1)) none) ty [.sl id off esz k cap ex,x] look n=Nf sz (.sl id off esz k cap ex) none (some x) none∧Ce P (.slice t (.tmp 0) (some (.tmp 1)) none none) ty [.sl id off esz k cap ex,x] look n=Nf sz (.sl id off esz k cap ex) (some x) none none∧Ce P (.slice t (.tmp 0) (some (.tmp 1)) (some (.tmp 2)) none) ty [.sl id off esz k cap ex,x,y] look n=Nf sz (.sl id off esz k cap ex) (some x) (some y) none:=by
 refine ⟨?_,?_,?_,?_⟩<;>(simp [Ce,Pz,Io,Vf,hu,hz,Nf];rfl)
theorem Em {d a:Nat}:K2 d (some (Aa (a:Int)))=some a:=by rw [Yw (by omega),Int.toNat_natCast]
theorem Fu {sz id off k cap lo hi mx:Nat} {ex:Bool} {x y z:Option AV} (hx:K2 0 x=some lo) (hy:K2 k y=some hi) (hz:K2 cap z=some mx) (h1:lo≤hi) (h2:hi≤mx) (h3:mx≤cap) (hn:(z.isSome && y.isNone)=false):Nf sz (.sl id off sz k cap ex) x y z=some (bif Nat.beq lo mx then .Ec 0 [] (ex||z.isSome) else .sl id (off+lo*sz) sz (hi-lo) (mx-lo) (ex||z.isSome),[]):=by
 unfold Nf
 simp only [hx,hy,hz,Nat.ble_eq_true_of_le h1,Nat.ble_eq_true_of_le h2,Nat.ble_eq_true_of_le h3,Nat.beq_refl,hn,Bool.and_self,Bool.not_false,cond_true]
 cases Nat.beq lo mx<;>rfl
theorem Gh {a b:Nat} (h:a≠b):Nat.beq a b=false:=by
 cases e:Nat.beq a b with
 |false=>rfl
 |true=>exact absurd (Nat.eq_of_beq_eq_true e) h
theorem Ox {zs:List AV} {sz:Nat} (h:zs.length=sz):∀n,(rep zs n).length=n*sz
 |0=>by simp [rep]
 |n+1=>by rw [rep,List.length_append,Ox h n,h,Nat.add_mul,Nat.one_mul,Nat.add_comm]
theorem zL {cs xs zs:List AV} {o p:Nat} (ho:o+xs.length≤p) (hp:p+zs.length≤cs.length):∃rest,Dh (Dh cs o xs) p zs=(cs.take o++xs)++rest:=by
 refine ⟨(Dh (Dh cs o xs) p zs).drop (o+xs.length),?_⟩
 have hlen:(cs.take o++xs).length=o+xs.length:=by rw [List.length_append,List.length_take];omega
 conv=>lhs;rw [← List.take_append_drop (o+xs.length) (Dh (Dh cs o xs) p zs)]
 congr 1
 unfold Dh
 rw [List.append_assoc,List.take_append_of_le_length (by rw [List.length_take,List.length_append,List.length_append,List.length_take,List.length_drop];omega),List.take_take,Nat.min_eq_left (by omega),List.take_append_of_le_length (by rw [hlen];omega),← hlen,List.take_length]
theorem o7 {cs zs:List AV} {o p:Nat} (ho:o≤p) (hp:p+zs.length≤cs.length):∃rest,Dh cs p zs=cs.take o++rest:=by
 refine ⟨(Dh cs p zs).drop o,?_⟩
 conv=>lhs;rw [← List.take_append_drop o (Dh cs p zs)]
 congr 1
 unfold Dh
 rw [List.append_assoc,List.take_append_of_le_length (by rw [List.length_take];omega),List.take_take,Nat.min_eq_left (by omega)]
theorem y9 {look:Nat→Option Be} {e sz by_ n id off k cap:Nat} {ex:Bool} {zs xs old:List AV} {m:Nat} {x:AV} {b:Be} (hx:cellsOf look sz x=some (m,xs)) (hm:m≠0) (ho:cellsOf look sz (.sl id off sz k cap ex)=some (k,old)) (hb:look id=some b) (hc:k+m≤cap) (hlen:off+(k+m)*sz≤b.cells.length) (hzs:zs.length=sz) (h1:1≤sz) (hxs:xs.length=m*sz) (hol:old.length=k*sz) (hcell:xs.all Cl=true) (hr1:(k+m)*by_≤140737488355328) (hr2:k+m≤4611686018427387904):
  app look e sz by_ zs n (.sl id off sz k cap ex) x=some (.sl id off sz (k+m) cap ex,[(id,some ⟨Dh b.cells (off+k*sz) xs,b.ty⟩)]):=by
 unfold app
 simp only [hx,Gh hm,cond_false,ho,Nat.ble_eq_true_of_le hr1,Nat.ble_eq_true_of_le hr2,hzs,Nat.beq_refl,Nat.ble_eq_true_of_le h1,hcell,hxs,hol,Bool.true_or,Bool.and_self,cond_true,Nat.ble_eq_true_of_le hc,hb,Nat.ble_eq_true_of_le hlen]
theorem Ae4 {look:Nat→Option Be} {e sz by_ n id off k cap:Nat} {ex:Bool} {zs xs old:List AV} {m:Nat} {x:AV} {b:Be} (hx:cellsOf look sz x=some (m,xs)) (hm:m≠0) (ho:cellsOf look sz (.sl id off sz k cap ex)=some (k,old)) (hb:look id=some b) (hc:k+m≤cap) (hlen:off+(k+m)*sz≤b.cells.length) (hzs:zs.length=sz) (h1:1≤sz) (hxs:xs.length=m*sz) (hol:old.length=k*sz) (hcell:xs.all Cl=true) (hr2:k+m≤4611686018427387904):
  app look e sz by_ zs n (.sl id off sz k cap ex) x=some (.sl id off sz (k+m) cap ex,[(id,some ⟨Dh b.cells (off+k*sz) xs,b.ty⟩)]):=by
 unfold app
 simp only [hx,Gh hm,cond_false,ho,cW,Bool.or_true,Nat.ble_eq_true_of_le hr2,hzs,Nat.beq_refl,Nat.ble_eq_true_of_le h1,hcell,hxs,hol,Bool.and_self,cond_true,Nat.ble_eq_true_of_le hc,hb,Nat.ble_eq_true_of_le hlen]
theorem U2 {look:Nat→Option Be} {t e sz ty n id off k cap:Nat} {ex:Bool} {zs:List AV} {b:Be} (hu:P.underlying t=some (.slice e)) (hz:Df P e=some sz) (hze:(Gv P e).bind (fun z=>(G0 z).bind C4)=some zs) (hzc:zs.all Cl=true) (hzs:zs.length=sz) (h1:1≤sz) (hb:look id=some b) (hk:k≠0) (hlen:off+k*sz≤b.cells.length):
  Ce P (.call ⟨.builtin .clear,#[.tmp 0],#[t]⟩) ty [.sl id off sz k cap ex] look n=some (.Bn [],[(id,some ⟨Dh b.cells off (rep zs k),b.ty⟩)]):=by
 obtain ⟨j,rfl⟩:∃j,k=j+1:=⟨k-1,by omega⟩
 show Uo P look t (.sl id off sz (j+1) cap ex)=_
 unfold Uo
 simp only [hu,hz,hze,hb,Nat.ble_eq_true_of_le hlen,hzc,Nat.beq_refl,hzs,Nat.ble_eq_true_of_le h1,Bool.true_or,Bool.and_self,cond_true]
theorem pE {t e sz by_ ty:Nat} {zs:List AV} {l:List α} {a b:Nat} (hu:P.underlying t=some (.slice e)) (hz:Df P e=some sz) (hs:E.size=sz) (hzl:zs.length=sz) (hze:(Gv P e).bind (fun z=>(G0 z).bind C4)=some zs) (hzc:zs.all Cl=true) (hr1:l.length*by_≤140737488355328) (hr2:l.length≤4611686018427387904) (h1:a<b) (h2:b≤l.length) (R:AV→Mem→Prop) (hR:∀u m,O1 E ty (l.take a++l.drop b) u m→R u m) (m:Mem) (hm:m=[(0,some ⟨A0 E l,ty⟩)]) (a0:AV) (ha0:a0=.sl 0 0 E.size l.length l.length false) (a1 a2:Int) (ha1:a1=(a:Int)) (ha2:a2=(b:Int)):
  A4 (Da a0) fun v0=>
  Ag v0 fun z1=>
  A4 (Ce P (.slice t (.tmp 0) (some (.tmp 1)) (some (.tmp 2)) (some (.tmp 3))) t [a0,(AV.sc (.int .i64 a1)),(AV.sc (.int .i64 a2)),(AV.sc (.int .i64 z1))] (Al m) 7) fun v2=>
  bif (a1==a2) then (
  Ic (Nat.ble 13 65) (As R m [some a0])) else (
  A4 (Da a0) fun v3=>
  Ag v3 fun z4=>
  H0 (Ce P (.slice t (.tmp 0) none (some (.tmp 1)) none) t [a0,(AV.sc (.int .i64 a1))] (Cy m (A3 a0++(A3 (AV.sc (.int .i64 a1))++([])))) 16) fun v5 d5=>
  H0 (Ce P (.slice t (.tmp 0) (some (.tmp 1)) none none) t [a0,(AV.sc (.int .i64 a2))] (Cy (Ad m d5) (A3 a0++(A3 (AV.sc (.int .i64 a2))++([])))) 19) fun v6 d6=>
  H0 (app (Cy (Ad (Ad m d5) d6) (A3 v5++(A3 v6++([])))) e sz by_ zs 20 v5 v6) fun v7 d7=>
  Ic (E3 [0,0,3,0,0,24,63,127] [⟨[],[]⟩,⟨[],[]⟩,⟨d5,(A3 a0++(A3 (AV.sc (.int .i64 a1))++([])))⟩,⟨[],[]⟩,⟨[],[]⟩,⟨d6,(A3 a0++(A3 (AV.sc (.int .i64 a2))++([])))⟩,⟨d7,(A3 v5++(A3 v6++([])))⟩,⟨[],[]⟩]) (A4 (Da v7) fun v8=>
  Ag v8 fun z9=>
  A4 (Ce P (.slice t (.tmp 0) (some (.tmp 1)) (some (.tmp 2)) none) t [v7,(AV.sc (.int .i64 z9)),(AV.sc (.int .i64 z4))] (Al (Ad (Ad (Ad m d5) d6) d7)) 26) fun v10=>
  Hi (Ce P (.call ⟨.builtin .clear,#[.tmp 0],#[t]⟩) 0 [v10] (Al (Ad (Ad (Ad m d5) d6) d7)) 27) (Ad (Ad (Ad m d5) d6) d7) fun v11 m11=>
  Rr v11<|
  Ic (Nat.ble 30 65) (As R m11 [some v7]))):=by
 subst hs hm ha0 ha1 ha2
 have hn0:l.length≠0:=by omega
 have hp:=E.pos
 have hlen:Da (.sl 0 0 E.size l.length l.length false)=some (Aa l.length,[]):=rfl
 refine B6 hlen ?_
 refine C3 ?_
 have s3:=fun (yt ty n:Nat) (look:Nat→Option Be) (k cap off:Nat) (ex:Bool) (x y z:AV)=>J5 (P:=P) (look:=look) (yt:=yt) (ty:=ty) (n:=n) hu hz (id:=0) (off:=off) (esz:=E.size) (k:=k) (cap:=cap) (ex:=ex) (x:=x) (y:=y) (z:=z)
 refine B6 ((s3 0 t 7 _ l.length l.length 0 false _ _ _).1.trans (Fu (Em (a:=a)) (Em (a:=b)) (Em (a:=l.length)) (by omega) h2 (Nat.le_refl _) rfl)) ?_
 have hab:((a:Int)==(b:Int))=false:=beq_eq_false_iff_ne.2 (by omega)
 rw [hab,cond_false]
 refine B6 hlen ?_
 refine C3 ?_
 refine Dr ((s3 0 t 16 _ l.length l.length 0 false (Aa (a:Int)) .Es .Es).2.1.trans (Fu (lo:=0) rfl (Em (a:=a)) (mx:=l.length) rfl (Nat.zero_le _) (by omega) (Nat.le_refl _) rfl)) ?_
 rw [Gh (Ne.symm hn0),cond_false]
 refine Dr ((s3 0 t 19 _ l.length l.length 0 false (Aa (b:Int)) .Es .Es).2.2.1.trans (Fu (Em (a:=b)) (hi:=l.length) rfl (mx:=l.length) rfl h2 (Nat.le_refl _) (Nat.le_refl _) rfl)) ?_
 have hel:(A0 E l).length=l.length*E.size:=Br l
 have hale:a*E.size≤l.length*E.size:=Nat.mul_le_mul_right _ (by omega)
 rcases Nat.eq_or_lt_of_le h2 with hbn|hbn
 ·
  subst hbn
  rw [Nat.beq_refl,cond_true]
  refine Dr (d:=[]) (v:=.sl 0 (0+0*E.size) E.size (a-0) (l.length-0) false) (by
   unfold app
   simp only [cellsOf,List.length_nil,Nat.zero_mul]
   rfl) ?_
  refine Dm rfl ?_
  refine B6 (v:=Aa ((a-0:Nat):Int)) rfl ?_
  refine C3 ?_
  refine B6 ((s3 0 t 26 _ (a-0) (l.length-0) (0+0*E.size) false _ _ .Es).2.2.2.trans (Fu (Em (a:=a-0)) (Em (a:=l.length)) (mx:=l.length-0) rfl (by omega) (by omega) (Nat.le_refl _) rfl)) ?_
  rw [Gh (show a-0≠l.length-0 by omega),cond_false]
  have hmul:(l.length-(a-0))*E.size=l.length*E.size-a*E.size:=by rw [Nat.sub_zero,Nat.sub_mul]
  refine Cz (U2 (b:=⟨A0 E l,ty⟩) hu hz hze hzc hzl hp rfl (by omega) (by show _≤(A0 E l).length;rw [hel,hmul,Nat.sub_zero,Nat.zero_mul];omega)) ?_
  rw [cC]
  refine Dm rfl ?_
  obtain ⟨rest,hrest⟩:=o7 (cs:=A0 E l) (zs:=rep zs (l.length-(a-0))) (o:=a*E.size) (p:=0+0*E.size+(a-0)*E.size) (by rw [Nat.sub_zero,Nat.zero_mul];omega) (by rw [Ox hzl,hel,hmul,Nat.sub_zero,Nat.zero_mul];omega)
  refine hR _ _ ⟨0,l.length-0,false,rest,?_,?_⟩
  ·rw [List.drop_length,List.append_nil,List.length_take,Nat.min_eq_left (by omega),Nat.zero_mul];rfl
  ·rw [List.drop_length,List.append_nil,← Ji,← hrest];rfl
 ·have hbe:(l.length-b)*E.size=l.length*E.size-b*E.size:=Nat.sub_mul _ _ _
  have hble:b*E.size+E.size≤l.length*E.size:=by
   have:=Nat.mul_le_mul_right E.size (show b+1≤l.length by omega)
   rw [Nat.add_mul,Nat.one_mul] at this;exact this
  have hable:a*E.size+E.size≤b*E.size:=by
   have:=Nat.mul_le_mul_right E.size (show a+1≤b by omega)
   rw [Nat.add_mul,Nat.one_mul] at this;exact this
  rw [Gh (show b≠l.length by omega),cond_false]
  have hxs:((A0 E l).drop (0+b*E.size)).take ((l.length-b)*E.size)=A0 E (l.drop b):=by
   rw [Nat.zero_add,Ij,List.take_of_length_le]
   rw [Br,List.length_drop];exact Nat.le_refl _
  have hc1:∀look:Nat→Option Be,look 0=some ⟨A0 E l,ty⟩→cellsOf look E.size (.sl 0 (0+b*E.size) E.size (l.length-b) (l.length-b) false)=some (l.length-b,A0 E (l.drop b)):=by
   intro look hlk
   simp only [cellsOf,hlk,Nat.beq_refl,Bool.and_true,hxs]
   rw [Nat.ble_eq_true_of_le (by rw [hel,hbe];omega),cond_true]
  have hc2:∀look:Nat→Option Be,look 0=some ⟨A0 E l,ty⟩→cellsOf look E.size (.sl 0 (0+0*E.size) E.size (a-0) (l.length-0) false)=some (a-0,A0 E (l.take a)):=by
   intro look hlk
   simp only [cellsOf,hlk,Nat.beq_refl,Bool.and_true]
   rw [Nat.ble_eq_true_of_le (by rw [hel,Nat.zero_mul,Nat.sub_zero];omega),cond_true,Nat.zero_mul,Nat.add_zero,List.drop_zero,Nat.sub_zero,Ji]
  have hdl:(A0 E (l.drop b)).length=(l.length-b)*E.size:=by rw [Br,List.length_drop]
  refine Dr (y9 (m:=l.length-b) (hc1 _ rfl) (by omega) (hc2 _ rfl) (b:=⟨A0 E l,ty⟩) rfl (by omega) (by
   show _≤(A0 E l).length
   rw [hel,Nat.add_mul,hbe,Nat.zero_mul,Nat.sub_zero];omega) hzl hp hdl (by rw [Br,List.length_take,Nat.sub_zero,Nat.min_eq_left (by omega)]) (Ew _) (Nat.le_trans (Nat.mul_le_mul_right _ (by omega)) hr1) (by omega)) ?_
  refine Dm (by kernel_rfl) ?_
  refine B6 (v:=Aa ((a-0+(l.length-b):Nat):Int)) rfl ?_
  refine C3 ?_
  refine B6 ((s3 0 t 26 _ (a-0+(l.length-b)) (l.length-0) (0+0*E.size) false _ _ .Es).2.2.2.trans (Fu (Em (a:=a-0+(l.length-b))) (Em (a:=l.length)) (mx:=l.length-0) rfl (by omega) (by omega) (Nat.le_refl _) rfl)) ?_
  rw [Gh (show a-0+(l.length-b)≠l.length-0 by omega),cond_false]
  have hap:(Dh (A0 E l) (0+0*E.size+(a-0)*E.size) (A0 E (l.drop b))).length=l.length*E.size:=by
   unfold Dh
   simp only [List.length_append,List.length_take,List.length_drop,hel,hdl,hbe,Nat.zero_mul,Nat.sub_zero]
   omega
  have hq:(l.length-(a-0+(l.length-b)))*E.size=b*E.size-a*E.size:=by
   rw [show l.length-(a-0+(l.length-b))=b-a by omega,Nat.sub_mul]
  refine Cz (U2 (b:=⟨Dh (A0 E l) (0+0*E.size+(a-0)*E.size) (A0 E (l.drop b)),ty⟩) hu hz hze hzc hzl hp rfl (by omega) (by
   show _≤(Dh (A0 E l) (0+0*E.size+(a-0)*E.size) (A0 E (l.drop b))).length
   rw [hap,hq,Nat.add_mul,hbe,Nat.zero_mul,Nat.sub_zero];omega)) ?_
  rw [cC]
  refine Dm rfl ?_
  obtain ⟨rest,hrest⟩:=zL (cs:=A0 E l) (xs:=A0 E (l.drop b)) (zs:=rep zs (l.length-(a-0+(l.length-b)))) (o:=0+0*E.size+(a-0)*E.size) (p:=0+0*E.size+(a-0+(l.length-b))*E.size) (by rw [hdl,Nat.add_mul,hbe];omega) (by rw [Ox hzl,hq,hel,Nat.add_mul,hbe,Nat.zero_mul,Nat.sub_zero];omega)
  refine hR _ _ ⟨0,l.length-0,false,rest,?_,?_⟩
  ·rw [List.length_append,List.length_take,List.length_drop,Nat.min_eq_left (by omega),Nat.zero_mul,Nat.sub_zero];rfl
  ·rw [Ds,← Ji]
   show _=some (⟨A0 E l|>.take (a*E.size)|>(·++A0 E (l.drop b))|>(·++rest),ty⟩:Be)
   show some (⟨Dh (Dh (A0 E l) (0+0*E.size+(a-0)*E.size) (A0 E (l.drop b))) (0+0*E.size+(a-0+(l.length-b))*E.size) (rep zs (l.length-(a-0+(l.length-b)))),ty⟩:Be)=_
   rw [hrest]
   simp only [Nat.zero_mul,Nat.add_zero,Nat.zero_add,Nat.sub_zero]
theorem Ak0 {n id ty by_:Nat} {look:Nat→Option Be} {f:FuncId} {l l0 y:List α} {i j:Int} (hE:ScE E) (hl:l0.length=l.length) (hb:look id=Cn E ty l) (h:bX by_ l i j=some y)
  (hF:∀a b:Nat,l.length*by_≤140737488355328→l.length≤4611686018427387904→a<b→b≤l.length→C1 P gl [(0,some ⟨A0 E l,ty⟩)] 1 f [.sl 0 0 E.size l.length l.length false,Aa (a:Int),Aa (b:Int)] (O1 E ty (l.take a++l.drop b))):
  Dq P gl look n f [Bh E id l0,Aa i,Aa j] (Nh E n y) [(n,some ⟨A0 E y,ty⟩),(id,none)]:=by
 unfold bX at h
 split at h
 ·rename_i hc
  obtain ⟨h1,h2,h3,h4,h5⟩:=hc
  have hy:=Option.some.inj h
  obtain ⟨a,rfl⟩:=Int.eq_ofNat_of_zero_le h1
  obtain ⟨b,rfl⟩:=Int.eq_ofNat_of_zero_le (show 0≤j by omega)
  rw [Int.toNat_natCast,Int.toNat_natCast] at hy
  have:=hF a b h4 h5 (by omega) (by omega)
  rw [hy] at this
  exact kC (args:=[Aa (a:Int),Aa (b:Int)]) (ar:=[Aa (a:Int),Aa (b:Int)]) hE hl (by rintro rfl;simp at h3;omega) hb (A7 (Di _ _) (A7 (Di _ _) C0)) (Acd this)
 ·cases h
theorem Aij {id:Nat} {l l':List α} (h:l.length=l'.length):Da (Nh E id l)=some (Aa l'.length,[]):=by unfold Nh;rw [h];rfl
theorem Aob {m:Mem} (k:Nat) {id ty:Nat} {l l':List α} (hl:l.length=l'.length) (hb:Al m id=some ⟨A0 E l',ty⟩):Fz (k+2) m (Nh E id l) (Ar E l'):=Age k hl hb
theorem Aic {look:Nat→Option Be} {sz by_ n id ty:Nat} {zs:List AV} {l l' xs:List α} {x:AV} {u:Unit} (hs:E.size=sz) (hz:Nat.beq zs.length sz=true) (hx:cellsOf look sz x=some (xs.length,A0 E xs)) (hne:xs≠[]) (hl:l.length=l'.length) (hb:look id=some ⟨A0 E l',ty⟩) (hr:D0 (l'.length+xs.length) by_=some u):
  app look ty sz by_ zs n (Nh E id l) x=some (Bh E n (l'++xs),[(n,Cn E ty (l'++xs)),(id,none)]):=by
 obtain ⟨r1,r2⟩:=N7 hr
 have hx0:Nat.beq xs.length 0=false:=by
  cases h:Nat.beq xs.length 0 with
  |false=>rfl
  |true=>exact absurd (List.eq_nil_of_length_eq_zero (Nat.eq_of_beq_eq_true h)) hne
 have hne2:l'++xs≠[]:=by simp [hne]
 have hlen:0<xs.length:=List.length_pos_iff.2 hne
 have t2:Nat.ble ((l'.length+xs.length)*by_) 140737488355328=true:=Nat.ble_eq_true_of_le r1
 have t3:Nat.ble (l'.length+xs.length) 4611686018427387904=true:=Nat.ble_eq_true_of_le r2
 have t5:Nat.ble 1 sz=true:=by rw [← hs];exact Nat.ble_eq_true_of_le E.pos
 have t6:Nat.beq (A0 E xs).length (xs.length*sz)=true:=by rw [Br,hs];exact Nat.beq_refl _
 have t7:Nat.beq (A0 E l').length (l'.length*sz)=true:=by rw [Br,hs];exact Nat.beq_refl _
 have hcell:=Ew (E:=E) xs
 subst hs
 have hc:cellsOf look E.size (Nh E id l)=some (l'.length,A0 E l'):=J4 rfl hl hb
 have t8:Nat.ble (l'.length+xs.length) l.length=false:=by
  cases h:Nat.ble (l'.length+xs.length) l.length with
  |false=>rfl
  |true=>have:=Nat.le_of_ble_eq_true h;omega
 rw [Fj hne2,C7 hne2]
 unfold app
 rw [hx]
 simp only [hx0,cond_false]
 rw [hc]
 simp only [t2,t3,hz,t5,hcell,t6,t7,Bool.true_or,Bool.and_self,cond_true,Nh,t8,cond_false,hb,Nat.beq_refl,List.length_append,Ds]
def aF (E:En α) (id n lo k:Nat):AV:=bif Nat.beq lo n then .Ec 0 [] false else .sl id (0+lo*E.size) E.size k (n-lo) false
theorem Kr {l y:List α} {lo hi:Option Int} (h:F0 l lo hi=some y):∃a b:Nat,lo.getD 0=(a:Int)∧hi.getD (l.length:Int)=(b:Int)∧a≤b∧b≤l.length∧y=(l.drop a).take (b-a)∧y.length=b-a:=by
 unfold F0 at h
 simp only at h
 split at h
 ·rename_i hc
  obtain ⟨h1,h2,h3⟩:=hc
  have hy:=Option.some.inj h
  refine ⟨(lo.getD 0).toNat,(hi.getD (l.length:Int)).toNat,(Int.toNat_of_nonneg h1).symm,(Int.toNat_of_nonneg (by omega)).symm,by omega,by omega,?_,?_⟩
  ·rw [← hy];congr 1;omega
  ·rw [← hy,List.length_take,List.length_drop];omega
 ·cases h
theorem bN {id:Nat} {l0 l y:List α} {lo hi:Option Int} (hl:l0.length=l.length) (h:F0 l lo hi=some y):Nf E.size (Bh E id l0) (lo.map Aa) (hi.map Aa) none=some (aF E id l.length (lo.getD 0).toNat y.length,[]):=by
 obtain ⟨a,b,h1,h2,h3,h4,-,h6⟩:=Kr h
 have b1:K2 0 (lo.map Aa)=some a:=by
  cases lo with
  |none=>simp at h1;have:a=0:=by omega
         rw [this];rfl
  |some z=>simp at h1;subst h1;exact Em
 have b2:K2 l.length (hi.map Aa)=some b:=by
  cases hi with
  |none=>simp at h2;have:l.length=b:=by omega
         rw [this];rfl
  |some z=>simp at h2;subst h2;exact Em
 have h1:(lo.getD 0).toNat=a:=by rw [h1];rfl
 rw [h1,h6]
 cases l0 with
 |nil=>
  have hl0:l.length=0:=hl.symm
  have ha:a=0:=by omega
  have hb:b=0:=by omega
  subst ha hb
  rw [hl0] at b2 ⊢
  have e0:Nat.beq ([]:List AV).length (0*E.size)=true:=by rw [Nat.zero_mul];rfl
  have b3:K2 0 (none:Option AV)=some 0:=rfl
  simp only [Bh,Nf,b1,b2,b3,e0,Option.isSome_none,Bool.false_and,Bool.not_false,Bool.and_true]
  rw [List.drop_nil,List.take_nil]
  rfl
 |cons x l0=>
  rw [Fj (by simp),hl,Fu b1 b2 (mx:=l.length) rfl h3 h4 (Nat.le_refl _) rfl]
  rfl
theorem Ajp {t ty n e id:Nat} {look:Nat→Option Be} (hu:P.underlying t=some (.slice e)) (hz:Df P e=some E.size) {l0 l y:List α} {a:Int} (hl:l0.length=l.length) (h:F0 l (some a) none=some y):Ce P (.slice t (.tmp 0) (some (.tmp 1)) none none) ty [Bh E id l0,Aa a] look n=some (aF E id l.length a.toNat y.length,[]):=by
 refine Eq.trans ?_ (bN (id:=id) hl h)
 cases l0 with
 |nil=>exact (Oc (yt:=0) (a:=Aa a) (b:=.Es) hu hz).1
 |cons x l0=>exact (J5 (yt:=0) (x:=Aa a) (y:=.Es) (z:=.Es) hu hz).2.2.1
theorem Aia {t ty n e id:Nat} {look:Nat→Option Be} (hu:P.underlying t=some (.slice e)) (hz:Df P e=some E.size) {l0 l y:List α} {a:Int} (hl:l0.length=l.length) (h:F0 l none (some a)=some y):Ce P (.slice t (.tmp 0) none (some (.tmp 1)) none) ty [Bh E id l0,Aa a] look n=some (aF E id l.length 0 y.length,[]):=by
 refine Eq.trans ?_ (bN (id:=id) hl h)
 cases l0 with
 |nil=>exact (Oc (yt:=0) (a:=Aa a) (b:=.Es) hu hz).2.1
 |cons x l0=>exact (J5 (yt:=0) (x:=Aa a) (y:=.Es) (z:=.Es) hu hz).2.1
theorem Zf {m:Mem} {id ty:Nat} {l0 l:List α} (hne:l≠[]) (hl:l0.length=l.length) (hb:Al m id=Cn E ty l):O1 E ty l (Bh E id l0) m:=by
 have hl0:l0≠[]:=by rintro rfl;exact hne (List.eq_nil_of_length_eq_zero hl.symm)
 rw [Fj hl0,hl]
 rw [C7 hne] at hb
 exact ⟨id,l.length,false,[],rfl,by rw [List.append_nil];exact hb⟩
theorem aA {m:Mem} {id ty:Nat} {l y:List α} {hi:Option Int} (hne:l≠[]) (h:F0 l none hi=some y) (hb:Al m id=Cn E ty l):O1 E ty y (aF E id l.length 0 y.length) m:=by
 obtain ⟨a,b,h1,h2,h3,h4,h5,h6⟩:=Kr h
 have h1:a=0:=by simp at h1;omega
 subst h1
 rw [C7 hne] at hb
 have h0:Nat.beq 0 l.length=false:=by
  cases q:Nat.beq 0 l.length with
  |false=>rfl
  |true=>exact absurd (List.eq_nil_of_length_eq_zero (Nat.eq_of_beq_eq_true q).symm) hne
 refine ⟨id,l.length-0,false,A0 E (l.drop b),?_,?_⟩
 ·unfold aF
  rw [h0,cond_false,Nat.zero_mul]
 ·rw [hb,h5,List.drop_zero,Nat.sub_zero,← Ds,List.take_append_drop]
def neO {α:Type} (l:List α):Option Unit:=match l with|[]=>none|_::_=>some ()
theorem eW {m:Mem} {n id ty:Nat} {l xs:List α} (hx:xs≠[]) (h:n≠id):Al (Ad m (Jf E n id ty l xs)) n=Cn E ty (l++xs):=by
 cases xs with
 |nil=>exact absurd rfl hx
 |cons x xs=>exact S1 h
theorem Uz {l:List α} {u:Unit} (h:neO l=some u):l≠[]:=by rintro rfl;cases h
def Oz {α:Type} (z:α) (l y:List α) (lo:Nat):List α:=l.take lo++List.replicate y.length z++l.drop (lo+y.length)
theorem lG {z:α} {l y:List α} {lo:Nat} {u:Unit} (h:neO y=some u):Oz z l y lo≠[]:=by
 intro e
 have:(Oz z l y lo).length=0:=by rw [e];rfl
 unfold Oz at this
 simp at this
 exact Uz h this.2.1
theorem qH {z:α} {l y:List α} {lo hi:Option Int} (h:F0 l lo hi=some y):(Oz z l y (lo.getD 0).toNat).length=l.length:=by
 obtain ⟨a,b,h1,h2,h3,h4,h5,h6⟩:=Kr h
 have h1:(lo.getD 0).toNat=a:=by rw [h1];rfl
 rw [h1]
 unfold Oz
 simp only [List.length_append,List.length_take,List.length_replicate,List.length_drop]
 omega
theorem oN {look:Nat→Option Be} {t e sz ty tt n id:Nat} {l y:List α} {lo hi:Option Int} {z:α} {u:Unit} (hu:P.underlying t=some (.slice e)) (hz:Df P e=some sz) (hs:E.size=sz) (hze:(Gv P e).bind (fun z=>(G0 z).bind C4)=some (E.enc z)) (h:F0 l lo hi=some y) (hne:neO y=some u) (hb:look id=Cn E ty l):
  Ce P (.call ⟨.builtin .clear,#[.tmp 0],#[t]⟩) tt [aF E id l.length (lo.getD 0).toNat y.length] look n=some (.Bn [],[(id,Cn E ty (Oz z l y (lo.getD 0).toNat))]):=by
 subst hs
 rw [C7 (lG hne)]
 obtain ⟨a,b,h1,h2,h3,h4,h5,h6⟩:=Kr h
 have h1:(lo.getD 0).toNat=a:=by rw [h1];rfl
 rw [h1]
 have hy:=Uz hne
 have hy0:y.length≠0:=fun e=>hy (List.eq_nil_of_length_eq_zero e)
 have hl:l≠[]:=by rintro rfl;simp at h5;exact hy h5
 rw [C7 hl] at hb
 unfold aF
 rw [Gh (show a≠l.length by omega),cond_false]
 have hle:(a+y.length)*E.size≤l.length*E.size:=Nat.mul_le_mul_right _ (by omega)
 rw [U2 (b:=⟨A0 E l,ty⟩) hu hz hze (E.cell z) (E.len z) E.pos hb hy0 (by show _≤(A0 E l).length;rw [Br,Nat.zero_add,← Nat.add_mul];exact hle)]
 have:Dh (A0 E l) (0+a*E.size) (rep (E.enc z) y.length)=A0 E (Oz z l y a):=by
  unfold Dh Oz
  rw [Ox (E.len z),Nat.zero_add,← Nat.add_mul,Ds,Ds,Ji,Ij,Aas rfl]
 show some (_,[(id,some (⟨Dh (A0 E l) (0+a*E.size) (rep (E.enc z) y.length),ty⟩:Be))])=_
 rw [this]
theorem vS {n:Nat} {cs:List AV}:gD (.Ec n cs true) (.Ec n cs false):=by
 intro c v h
 cases h with
 |Gd a cap ex he hm hn=>exact .Gd a cap false (fun h=>by cases h) hm hn
 |Ec hb h hc hn he hm=>exact .Ec hb h hc hn (fun h=>by cases h) hm
end
end Go.Proofs.YtkdodbfnocdkdaaGreatDoor
