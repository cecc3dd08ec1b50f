/- A part. -/
import Derived.Test.YtmechmjjcgdpdaaGreatDoorPF
import Derived.KernelRfl
set_option linter.unusedVariables false
set_option linter.unusedSimpArgs false
namespace Go.Proofs.YtmechmjjcgdpdaaGreatDoor
open Go.RowKit
section
variable {α:Type} {E:En α} {P:Program} {K:I5} {gl:Nat→Option (List AV)}
def bH (E:En α) (id:Nat) (l:List α):AV:=.sl id 0 E.size l.length l.length false
def Tg (E:En α) (ty:Nat) (l':List α) (u:AV) (m:Mem):Prop:=∃k cap ex rest,u=.sl k 0 E.size l'.length cap ex∧Ao m k=some ⟨Az E l'++rest,ty⟩
def less (look:Nat→Option Bk) (id:Nat):Nat→Option Bk:=fun j=>bif Nat.beq j id then none else look j
def Q0 (P:Program) (gl:Nat→Option (List AV)) (m:Mem) (nx:Nat) (f:FuncId) (args:List AV) (R:AV→Mem→Prop):Prop:=
 Dp P f∧∀(B:Nat) (c:Cx) (vals:List Value),Good B c→B2 gl c→(∀id,c.M id=Ao m id)→(∀id,c.al id→id<nx)→Be c args vals→Calls P f vals.toArray c.w (fun e w'=>∃v m' nx',R v m'∧Fm B {c with al:=fun _=>False} v m' nx' e w')
theorem W1 (c:Cx):Step {c with al:=fun _=>False} c:=⟨rfl,rfl,rfl,Nat.le_refl _,fun _ _ _=>rfl,fun _ _ h=>h,fun _ h=>h.elim,fun _ h=>h.elim,fun _=>Iff.rfl,fun b arr T h=>⟨arr,h,rfl⟩,Nat.le_refl _⟩
theorem Ahh {m:Mem} {nx:Nat} {f:FuncId} {args:List AV} {R:AV→Mem→Prop} (h:Ep P gl m nx f args R):Q0 P gl m nx f args R:=
 ⟨h.1,fun B c vals g hgl hM ha hr=>(h.2 B c vals g hgl hM ha hr).mono fun e w' ⟨v,m',h1,v',c',q1,q2,q3,q4,q5,q6,q7⟩=>⟨v,m',_,h1,v',c',q1,q2,q3,(W1 c).trans q4,q5,q6,q7⟩⟩
theorem T8 (hm:P.follows .mixedOrders=true) {f:FuncId} {fn:Func} {code:Code} (hf:P.funcs[f]?=some fn) (hb:fn.body=some code) (hn:(fn.name== "runtime.NumGoroutine")=false) {args:List AV} (hl:Nat.ble args.length fn.ntmps=true) {m:Mem} {nx:Nat} {R:AV→Mem→Prop} {X:Prop}
  (hX:W P K fn.ntmps 0 code ⟨Ed args 0,m,nx⟩ (Cr P fn R)=X) (h:X):Q0 P K.gl m nx f args R:=by
 have h:=hX.mpr h
 refine ⟨⟨fn,code,hf,hb,hn⟩,fun B c vals g gl hM ha hr=> ?_⟩
 have tri:Bu P K fn.ntmps 0 code ⟨Ed args 0,m,nx⟩ (fun x s=>(x=.normal∨x=.ret)∧∃v,D6 P fn s=some v∧R v s.m):=(aY hm code _ _ h).mono fun x s hq=>by
  cases x with
  |normal=>
   simp only [Cr] at hq
   split at hq
   ·rename_i v hv;exact ⟨.inl rfl,v,hv,hq⟩
   ·exact hq.elim
  |ret=>
   simp only [Cr] at hq
   split at hq
   ·rename_i v hv;exact ⟨.inr rfl,v,hv,hq⟩
   ·exact hq.elim
  |exit i=>exact hq.elim
 have hl:=Nat.le_of_ble_eq_true hl
 refine calls_of_wp hf hb ?_
 have hlen:=hr.length
 have sr:SR K.gl B fn.ntmps c ⟨Ed args 0,m,nx⟩ {tmps:=vals.toArray++Array.replicate (fn.ntmps-vals.toArray.size) undef,defers:=[]}:=by
  refine ⟨g,fun t=> ?_,hM,ha,by simp;omega,rfl,gl⟩
  simp only [Rq,Nat.zero_le,if_true,Nat.sub_zero]
  rcases Nat.lt_or_ge t args.length with h|h
  ·obtain ⟨v,hv,hx⟩:=hr.get (k:=t) (x:=args[t]) (List.getElem?_eq_getElem h)
   have e1:args.getD t .El=args[t]:=by simp [List.getD_eq_getElem?_getD,h]
   rw [e1]
   have:(vals.toArray++Array.replicate (fn.ntmps-vals.toArray.size) undef).getD t undef=v:=by
    rw [Array.getD_eq_getD_getElem?,Array.getElem?_append_left (by simp;omega)]
    simp [hv]
   simp only [Act.eval,this]
   exact hx
  ·have e1:args.getD t .El=.El:=by simp [List.getD_eq_getElem?_getD,h]
   rw [e1];exact .El _
 refine wp_mono (tri B {c with al:=fun _=>False} c _ sr (W1 c) (fun _ h=>h.elim)) ?_
 rintro ex a' w' ⟨x,s,c',rfl,⟨hx,v,hv,hR⟩,sr',rfl,st⟩
 obtain ⟨v',h1,h2⟩:=Vy sr' hv
 have post:a'.defers=[]∧∃v,(results fn a'.tmps).run P c'.w=.ok v c'.w∧∃v_1 m' nx',R v_1 m'∧Fm B {c with al:=fun _=>False} v_1 m' nx' (.returned v) c'.w:=
  ⟨sr'.df,v',h1,v,s.m,s.nx,hR,v',c',rfl,rfl,h2,st,sr'.g,sr'.m,sr'.al⟩
 rcases hx with rfl|rfl
 ·exact post
 ·exact post
theorem Aco {n id ty:Nat} {look:Nat→Option Bk} {f:FuncId} {l l0 l':List α} {args ar:List AV} (hE:ScE E) (hl:l0.length=l.length) (hne:l≠[]) (hb:look id=B9 E ty l) (ha:SnL (less look id) 6 args ar)
  (h:Q0 P gl [(0,some ⟨Az E l,ty⟩)] 1 f (.sl 0 0 E.size l.length l.length false::ar) (Tg E ty l')):
  Gw P gl look n f (B3 E id l0::args) (bH E n l') [(n,some ⟨Az E l',ty⟩),(id,none)]:=by
 refine ⟨h.1,fun B c vals g hgl hn hlk hr=> ?_⟩
 have hl0:l0≠[]:=by rintro rfl;exact hne (List.eq_nil_of_length_eq_zero hl.symm)
 rw [Ev hl0,hl] at hr
 rw [C7 hne] at hb
 have hM:=hlk id _ hb
 have hfid:=g.lt hM
 have hidn:id≠n:=fun e=>hn (e ▸ (g.low id _ hM).2)
 cases hr with
 |cons hv hr=>
  rename_i v vals
  let c1:Cx:={w:=c.w,f:=fun _=>c.f id,al:=fun j=>j=0,M:=fun j=>Ao [(0,some ⟨Az E l,ty⟩)] j,no:=c.no}
  have own1:∀b,c1.own b→b=c.f id:=by
   rintro b ⟨j,Bd,h1,h2⟩
   exact h2.symm
  have hst:∀b,c.Bs b→c1.Bs b:=fun b ⟨h1,h2,h3⟩=>⟨h1,fun ho=>h2 (own1 b ho ▸ ⟨id,_,hM,rfl⟩),h3⟩
  have g1:Good B c1:=by
   have hj:∀j Bd,c1.M j=some Bd→j=0∧Bd=⟨Az E l,ty⟩:=by
    intro j Bd h
    have h:Ao [(0,some ⟨Az E l,ty⟩)] j=some Bd:=h
    unfold Ao at h
    cases hq:Nat.beq 0 j with
    |true=>rw [hq] at h;exact ⟨(Nat.eq_of_beq_eq_true hq).symm,(Option.some.inj h).symm⟩
    |false=>rw [hq] at h;simp [Ao] at h
   refine ⟨g.hB,fun j Bd h=> ?_,fun j Bd h=> ?_,g.Lj,fun j j' Bd blk' h h' _=> ?_⟩
   ·exact ⟨(g.low id _ hM).1,(hj j Bd h).1⟩
   ·obtain ⟨rfl,rfl⟩:=hj j Bd h
    obtain ⟨arr,vs,rest,q1,q2,q3⟩:=g.Bd id _ hM
    exact ⟨arr,vs,rest,q1,q2,Iu (Gf hE l) q3⟩
   ·rw [(hj j Bd h).1,(hj j' blk' h').1]
  have r0:A9 c1 (.sl 0 0 E.size l.length l.length false) v:=by
   cases hv with
   |sl ha hb hs hk hc he hm=>exact .sl (c:=c1) (id:=0) rfl hb hs hk hc he hm
  have rr:Be c1 ar vals:=by
   obtain ⟨us,h1,h2⟩:=M3 6 ha
   have hll:∀j b,less look id j=some b→c.M j=some b∧j≠id:=by
    intro j b h
    unfold less at h
    cases e:Nat.beq j id with
    |true=>rw [e] at h;cases h
    |false=>rw [e] at h;exact ⟨hlk j b h,Nat.ne_of_beq_eq_false e⟩
   have:Be c1 us vals:=Ez (fun z u y u' r h=>Ru (c:=c) (c0:=c1) g rfl hst (fun j b hb=>by
    obtain ⟨k1,k2⟩:=hll j b hb
    have hlow:=(g.low j b k1).1
    refine ⟨g.lt k1,fun ho=>k2 (g.inj j id b _ k1 hM (own1 _ ho)),fun hn=> ?_⟩
    have:=g.Lj _ hn
    omega) (fun j b h=>(hll j b h).1) 6 r h) hr h1
   rw [← h2];exact Gm this
  refine (h.2 B c1 (v::vals) g1 (B2.B1 (c:=c) rfl hst hgl) (fun _=>rfl) (fun j hj=>by have:j=0:=hj;omega) (.cons r0 rr)).mono ?_
  rintro e w' ⟨u,m,nx',⟨k,cap,ex,rest,rfl,hk⟩,v',c2,rfl,rfl,k1,st,g2,k4,k5⟩
  have hk2:c2.M k=some ⟨Az E l'++rest,ty⟩:=by rw [k4];exact hk
  have hlow2:=(g2.low k _ hk2).1
  have hsz:c.w.heap.size≤c2.w.heap.size:=st.size
  have hfk:=g2.lt hk2
  have hwhere:c2.f k=c.f id∨c.w.heap.size≤c2.f k:=by
   rcases Nat.lt_or_ge (c2.f k) c.w.heap.size with hlt|hge
   ·exact .inl (own1 _ (st.own _ hlt ⟨k,_,hk2,rfl⟩))
   ·exact .inr hge
  let c':Cx:={w:=c2.w,f:=fun i=>if i=n then c2.f k else c.f i,al:=fun i=>c.al i∨i=n,M:=Wh c.M [(n,some ⟨Az E l',ty⟩),(id,none)],no:=c.no}
  have hM':∀i,c'.M i=if i=id then none else if i=n then some ⟨Az E l',ty⟩ else c.M i:=fun i=>rfl
  have hMi:∀i Bd,c'.M i=some Bd→(i=n∧Bd=⟨Az E l',ty⟩)∨(i≠n∧i≠id∧c.M i=some Bd):=by
   intro i Bd h
   rw [hM'] at h
   by_cases e1:i=id
   ·rw [if_pos e1] at h;cases h
   ·rw [if_neg e1] at h
    by_cases e2:i=n
    ·rw [if_pos e2] at h;exact .inl ⟨e2,(Option.some.inj h).symm⟩
    ·rw [if_neg e2] at h;exact .inr ⟨e2,e1,h⟩
  have own':∀x,c'.own x→c.own x∨x=c2.f k:=by
   rintro x ⟨i,Bd,h1,h2⟩
   rcases hMi i Bd h1 with ⟨e,-⟩|⟨e,-,h3⟩
   ·right;simp only [c',e,if_true] at h2;exact h2.symm
   ·left;simp only [c',e,if_false] at h2;exact ⟨i,Bd,h3,h2⟩
  have stp:Step c c':=by
   refine ⟨st.os,st.tape,st.output,st.size,fun x hx ho=>st.Bd x hx (fun h=>ho (own1 x h ▸ ⟨id,_,hM,rfl⟩)),fun x hx ho=> ?_,fun i hi=> ?_,fun i hi=> .inl hi,fun _=>Iff.rfl,st.Y9,st.drawn⟩
   ·rcases own' x ho with h|h
    ·exact h
    ·have hx':x<c.w.heap.size:=hx
     rcases hwhere with h2|h2
     ·exact ⟨id,_,hM,by rw [h,h2]⟩
     ·omega
   ·have:i≠n:=fun h=>hn (h ▸ hi)
    simp [c',this]
  refine ⟨v',c',rfl,rfl,?_,stp,⟨Nat.le_trans g.hB hsz,fun i Bd h=> ?_,fun i Bd h=> ?_,g.Lj,fun i i' Bd blk' h h' hf=> ?_⟩,fun i=>rfl,fun i h=>h,fun i h=> .inl h⟩
  ·cases k1 with
   |sl ha hb hs hk hc he hm=>
    have:=A9.sl (c:=c') (id:=n) (off:=0) (esz:=E.size) (n:=l'.length) (cap:=l'.length) (ex:=false) (.inr rfl) (by simp only [c',if_true];exact hb) hs (Nat.le_refl _) (Nat.le_trans hk hc) (fun h=>by cases h) hm
    simpa [c',bH] using this
  ·rcases hMi i Bd h with ⟨e,-⟩|⟨e,-,h3⟩
   ·simp only [c',e,if_true];exact ⟨hlow2,.inr trivial⟩
   ·simp only [c',e,if_false];exact ⟨(g.low i Bd h3).1,.inl (g.low i Bd h3).2⟩
  ·rcases hMi i Bd h with ⟨e,rfl⟩|⟨e,e2,h3⟩
   ·obtain ⟨arr,vs,rst,q1,q2,q3⟩:=g2.Bd k _ hk2
    refine ⟨arr,vs.take (Az E l').length,vs.drop (Az E l').length++rst,by simp only [c',e,if_true];exact q1,by rw [← List.append_assoc,List.take_append_drop];exact q2,?_⟩
    have:=q3.take (Az E l').length
    rw [List.take_left] at this
    exact Iu (Gf hE l') this
   ·obtain ⟨arr,vs,rst,q1,q2,q3⟩:=g.Bd i Bd h3
    refine ⟨arr,vs,rst,?_,q2,q3.step stp⟩
    simp only [c',e,if_false]
    exact (st.Bd _ (Ck q1) (fun ho=>e2 (g.inj i id Bd _ h3 hM (own1 _ ho)))).trans q1
  ·rcases hMi i Bd h with ⟨e1,-⟩|⟨e1,e2,h3⟩<;>rcases hMi i' blk' h' with ⟨e3,-⟩|⟨e3,e4,h5⟩
   ·rw [e1,e3]
   ·exfalso
    have hlt:=g.lt h5
    simp only [c',e1,e3,if_true,if_false] at hf
    rcases hwhere with h2|h2
    ·exact e4 (g.inj i' id blk' _ h5 hM (by rw [← hf,h2]))
    ·omega
   ·exfalso
    have hlt:=g.lt h3
    simp only [c',e1,e3,if_true,if_false] at hf
    rcases hwhere with h2|h2
    ·exact e2 (g.inj i id Bd _ h3 hM (by rw [hf,h2]))
    ·omega
   ·simp only [c',e1,e3,if_false] at hf
    exact g.inj i i' Bd blk' h3 h5 hf
def wJ {α:Type} (by_:Nat) (l:List α) (i j:Int):Option (List α):=if 0≤i∧i<j∧j≤l.length∧l.length*by_≤140737488355328∧l.length≤4611686018427387904 then some (l.take i.toNat++l.drop j.toNat) else none
theorem Ua {t yt ty n e sz:Nat} {look:Nat→Option Bk} (hu:P.underlying t=some (.slice e)) (hz:Df P e=some sz) {id off esz k cap:Nat} {ex:Bool} {x y z:AV}:
  Cv P (.slice t (.tmp 0) (some (.tmp 1)) (some (.tmp 2)) (some (.tmp 3))) ty [.sl id off esz k cap ex,x,y,z] look n=Pu sz (.sl id off esz k cap ex) (some x) (some y) (some z)∧Cv P (.slice t (.tmp 0) none (some (.tmp 1)) none) ty [.sl id off esz k cap ex,x] look n=Pu sz (.sl id off esz k cap ex) none (some x) none∧Cv P (.slice t (.tmp 0) (some (.tmp 1)) none none) ty [.sl id off esz k cap ex,x] look n=Pu sz (.sl id off esz k cap ex) (some x) none none∧Cv P (.slice t (.tmp 0) (some (.tmp 1)) (some (.tmp 2)) none) ty [.sl id off esz k cap ex,x,y] look n=Pu sz (.sl id off esz k cap ex) (some x) (some y) none:=by
 refine ⟨?_,?_,?_,?_⟩<;>(simp [Cv,Ou,Qy,T5,hu,hz,Pu];rfl)
theorem D9 {d a:Nat}:K3 d (some (Aa (a:Int)))=some a:=by rw [Zw (by omega),Int.toNat_natCast]
theorem Fa {sz id off k cap lo hi mx:Nat} {ex:Bool} {x y z:Option AV} (hx:K3 0 x=some lo) (hy:K3 k y=some hi) (hz:K3 cap z=some mx) (h1:lo≤hi) (h2:hi≤mx) (h3:mx≤cap) (hn:(z.isSome && y.isNone)=false):Pu sz (.sl id off sz k cap ex) x y z=some (bif Nat.beq lo mx then .Dh 0 [] (ex||z.isSome) else .sl id (off+lo*sz) sz (hi-lo) (mx-lo) (ex||z.isSome),[]):=by
 unfold Pu
 simp only [hx,hy,hz,Nat.ble_eq_true_of_le h1,Nat.ble_eq_true_of_le h2,Nat.ble_eq_true_of_le h3,Nat.beq_refl,hn,Bool.and_self,Bool.not_false,cond_true]
 cases Nat.beq lo mx<;>rfl
theorem F0 {a b:Nat} (h:a≠b):Nat.beq a b=false:=by
 cases e:Nat.beq a b with
 |false=>rfl
 |true=>exact absurd (Nat.eq_of_beq_eq_true e) h
theorem Tv {zs:List AV} {sz:Nat} (h:zs.length=sz):∀n,(rep zs n).length=n*sz
 |0=>by simp [rep]
 |n+1=>by rw [rep,List.length_append,Tv h n,h,Nat.add_mul,Nat.one_mul,Nat.add_comm]
theorem xI {cs xs zs:List AV} {o p:Nat} (ho:o+xs.length≤p) (hp:p+zs.length≤cs.length):∃rest,C9 (C9 cs o xs) p zs=(cs.take o++xs)++rest:=by
 refine ⟨(C9 (C9 cs o xs) p zs).drop (o+xs.length),?_⟩
 have hlen:(cs.take o++xs).length=o+xs.length:=by rw [List.length_append,List.length_take];omega
 conv=>lhs;rw [← List.take_append_drop (o+xs.length) (C9 (C9 cs o xs) p zs)]
 congr 1
 unfold C9
 rw [List.append_assoc,List.take_append_of_le_length (by rw [List.length_take,List.length_append,List.length_append,List.length_take,List.length_drop];omega),List.take_take,Nat.min_eq_left (by omega),List.take_append_of_le_length (by rw [hlen];omega),← hlen,List.take_length]
theorem qS {cs zs:List AV} {o p:Nat} (ho:o≤p) (hp:p+zs.length≤cs.length):∃rest,C9 cs p zs=cs.take o++rest:=by
 refine ⟨(C9 cs p zs).drop o,?_⟩
 conv=>lhs;rw [← List.take_append_drop o (C9 cs p zs)]
 congr 1
 unfold C9
 rw [List.append_assoc,List.take_append_of_le_length (by rw [List.length_take];omega),List.take_take,Nat.min_eq_left (by omega)]
theorem xL {look:Nat→Option Bk} {e sz by_ n id off k cap:Nat} {ex:Bool} {zs xs old:List AV} {m:Nat} {x:AV} {b:Bk} (hx:cellsOf look sz x=some (m,xs)) (hm:m≠0) (ho:cellsOf look sz (.sl id off sz k cap ex)=some (k,old)) (hb:look id=some b) (hc:k+m≤cap) (hlen:off+(k+m)*sz≤b.cells.length) (hzs:zs.length=sz) (h1:1≤sz) (hxs:xs.length=m*sz) (hol:old.length=k*sz) (hcell:xs.all B7=true) (hr1:(k+m)*by_≤140737488355328) (hr2:k+m≤4611686018427387904):
  app look e sz by_ zs n (.sl id off sz k cap ex) x=some (.sl id off sz (k+m) cap ex,[(id,some ⟨C9 b.cells (off+k*sz) xs,b.ty⟩)]):=by
 unfold app
 simp only [hx,F0 hm,cond_false,ho,Nat.ble_eq_true_of_le hr1,Nat.ble_eq_true_of_le hr2,hzs,Nat.beq_refl,Nat.ble_eq_true_of_le h1,hcell,hxs,hol,Bool.true_or,Bool.and_self,cond_true,Nat.ble_eq_true_of_le hc,hb,Nat.ble_eq_true_of_le hlen]
theorem gA {look:Nat→Option Bk} {t e sz ty n id off k cap:Nat} {ex:Bool} {zs:List AV} {b:Bk} (hu:P.underlying t=some (.slice e)) (hz:Df P e=some sz) (hze:(Fy P e).bind (fun z=>(Gn z).bind C3)=some zs) (hzc:zs.all B7=true) (hzs:zs.length=sz) (h1:1≤sz) (hb:look id=some b) (hk:k≠0) (hlen:off+k*sz≤b.cells.length):
  Cv P (.call ⟨.builtin .clear,#[.tmp 0],#[t]⟩) ty [.sl id off sz k cap ex] look n=some (.Bn [],[(id,some ⟨C9 b.cells off (rep zs k),b.ty⟩)]):=by
 obtain ⟨j,rfl⟩:∃j,k=j+1:=⟨k-1,by omega⟩
 show Vk P look t (.sl id off sz (j+1) cap ex)=_
 unfold Vk
 simp only [hu,hz,hze,hb,Nat.ble_eq_true_of_le hlen,hzc,Nat.beq_refl,hzs,Nat.ble_eq_true_of_le h1,Bool.true_or,Bool.and_self,cond_true]
theorem p7 {t e sz by_ ty:Nat} {zs:List AV} {l:List α} {a b:Nat} (hu:P.underlying t=some (.slice e)) (hz:Df P e=some sz) (hs:E.size=sz) (hzl:zs.length=sz) (hze:(Fy P e).bind (fun z=>(Gn z).bind C3)=some zs) (hzc:zs.all B7=true) (hr1:l.length*by_≤140737488355328) (hr2:l.length≤4611686018427387904) (h1:a<b) (h2:b≤l.length) (R:AV→Mem→Prop) (hR:∀u m,Tg E ty (l.take a++l.drop b) u m→R u m) (m:Mem) (hm:m=[(0,some ⟨Az E l,ty⟩)]) (a0:AV) (ha0:a0=.sl 0 0 E.size l.length l.length false) (a1 a2:Int) (ha1:a1=(a:Int)) (ha2:a2=(b:Int)):
  Bg (Cn a0) fun v0=>
  Af v0 fun z1=>
  Bg (Cv P (.slice t (.tmp 0) (some (.tmp 1)) (some (.tmp 2)) (some (.tmp 3))) t [a0,(AV.sc (.int .i64 a1)),(AV.sc (.int .i64 a2)),(AV.sc (.int .i64 z1))] (Ao m) 7) fun v2=>
  bif (a1==a2) then (
  Hv (Nat.ble 13 65) (A8 R m [some a0])) else (
  Bg (Cn a0) fun v3=>
  Af v3 fun z4=>
  Gb (Cv P (.slice t (.tmp 0) none (some (.tmp 1)) none) t [a0,(AV.sc (.int .i64 a1))] (Cf m (A3 a0++(A3 (AV.sc (.int .i64 a1))++([])))) 16) fun v5 d5=>
  Gb (Cv P (.slice t (.tmp 0) (some (.tmp 1)) none none) t [a0,(AV.sc (.int .i64 a2))] (Cf (Ac m d5) (A3 a0++(A3 (AV.sc (.int .i64 a2))++([])))) 19) fun v6 d6=>
  Gb (app (Cf (Ac (Ac m d5) d6) (A3 v5++(A3 v6++([])))) e sz by_ zs 20 v5 v6) fun v7 d7=>
  Hv (D5 [0,0,3,0,0,24,63,127] [⟨[],[]⟩,⟨[],[]⟩,⟨d5,(A3 a0++(A3 (AV.sc (.int .i64 a1))++([])))⟩,⟨[],[]⟩,⟨[],[]⟩,⟨d6,(A3 a0++(A3 (AV.sc (.int .i64 a2))++([])))⟩,⟨d7,(A3 v5++(A3 v6++([])))⟩,⟨[],[]⟩]) (Bg (Cn v7) fun v8=>
  Af v8 fun z9=>
  Bg (Cv P (.slice t (.tmp 0) (some (.tmp 1)) (some (.tmp 2)) none) t [v7,(AV.sc (.int .i64 z9)),(AV.sc (.int .i64 z4))] (Ao (Ac (Ac (Ac m d5) d6) d7)) 26) fun v10=>
  Ia (Cv P (.call ⟨.builtin .clear,#[.tmp 0],#[t]⟩) 0 [v10] (Ao (Ac (Ac (Ac m d5) d6) d7)) 27) (Ac (Ac (Ac m d5) d6) d7) fun v11 m11=>
  T7 v11<|
  Hv (Nat.ble 30 65) (A8 R m11 [some v7]))):=by
 subst hs hm ha0 ha1 ha2
 have hn0:l.length≠0:=by omega
 have hp:=E.pos
 have hlen:Cn (.sl 0 0 E.size l.length l.length false)=some (Aa l.length,[]):=rfl
 refine Ds hlen ?_
 refine Ag ?_
 have s3:=fun (yt ty n:Nat) (look:Nat→Option Bk) (k cap off:Nat) (ex:Bool) (x y z:AV)=>Ua (P:=P) (look:=look) (yt:=yt) (ty:=ty) (n:=n) hu hz (id:=0) (off:=off) (esz:=E.size) (k:=k) (cap:=cap) (ex:=ex) (x:=x) (y:=y) (z:=z)
 refine Ds ((s3 0 t 7 _ l.length l.length 0 false _ _ _).1.trans (Fa (D9 (a:=a)) (D9 (a:=b)) (D9 (a:=l.length)) (by omega) h2 (Nat.le_refl _) rfl)) ?_
 have hab:((a:Int)==(b:Int))=false:=beq_eq_false_iff_ne.2 (by omega)
 rw [hab,cond_false]
 refine Ds hlen ?_
 refine Ag ?_
 refine Cu ((s3 0 t 16 _ l.length l.length 0 false (Aa (a:Int)) .El .El).2.1.trans (Fa (lo:=0) rfl (D9 (a:=a)) (mx:=l.length) rfl (Nat.zero_le _) (by omega) (Nat.le_refl _) rfl)) ?_
 rw [F0 (Ne.symm hn0),cond_false]
 refine Cu ((s3 0 t 19 _ l.length l.length 0 false (Aa (b:Int)) .El .El).2.2.1.trans (Fa (D9 (a:=b)) (hi:=l.length) rfl (mx:=l.length) rfl h2 (Nat.le_refl _) (Nat.le_refl _) rfl)) ?_
 have hel:(Az E l).length=l.length*E.size:=Bt l
 have hale:a*E.size≤l.length*E.size:=Nat.mul_le_mul_right _ (by omega)
 rcases Nat.eq_or_lt_of_le h2 with hbn|hbn
 ·
  subst hbn
  rw [Nat.beq_refl,cond_true]
  refine Cu (d:=[]) (v:=.sl 0 (0+0*E.size) E.size (a-0) (l.length-0) false) (by
   unfold app
   simp only [cellsOf,List.length_nil,Nat.zero_mul]
   rfl) ?_
  refine Dd rfl ?_
  refine Ds (v:=Aa ((a-0:Nat):Int)) rfl ?_
  refine Ag ?_
  refine Ds ((s3 0 t 26 _ (a-0) (l.length-0) (0+0*E.size) false _ _ .El).2.2.2.trans (Fa (D9 (a:=a-0)) (D9 (a:=l.length)) (mx:=l.length-0) rfl (by omega) (by omega) (Nat.le_refl _) rfl)) ?_
  rw [F0 (show a-0≠l.length-0 by omega),cond_false]
  have hmul:(l.length-(a-0))*E.size=l.length*E.size-a*E.size:=by rw [Nat.sub_zero,Nat.sub_mul]
  refine Dm (gA (b:=⟨Az E l,ty⟩) hu hz hze hzc hzl hp rfl (by omega) (by show _≤(Az E l).length;rw [hel,hmul,Nat.sub_zero,Nat.zero_mul];omega)) ?_
  rw [fX]
  refine Dd rfl ?_
  obtain ⟨rest,hrest⟩:=qS (cs:=Az E l) (zs:=rep zs (l.length-(a-0))) (o:=a*E.size) (p:=0+0*E.size+(a-0)*E.size) (by rw [Nat.sub_zero,Nat.zero_mul];omega) (by rw [Tv hzl,hel,hmul,Nat.sub_zero,Nat.zero_mul];omega)
  refine hR _ _ ⟨0,l.length-0,false,rest,?_,?_⟩
  ·rw [List.drop_length,List.append_nil,List.length_take,Nat.min_eq_left (by omega),Nat.zero_mul];rfl
  ·rw [List.drop_length,List.append_nil,← Ii,← hrest];rfl
 ·have hbe:(l.length-b)*E.size=l.length*E.size-b*E.size:=Nat.sub_mul _ _ _
  have hble:b*E.size+E.size≤l.length*E.size:=by
   have:=Nat.mul_le_mul_right E.size (show b+1≤l.length by omega)
   rw [Nat.add_mul,Nat.one_mul] at this;exact this
  have hable:a*E.size+E.size≤b*E.size:=by
   have:=Nat.mul_le_mul_right E.size (show a+1≤b by omega)
   rw [Nat.add_mul,Nat.one_mul] at this;exact this
  rw [F0 (show b≠l.length by omega),cond_false]
  have hxs:((Az E l).drop (0+b*E.size)).take ((l.length-b)*E.size)=Az E (l.drop b):=by
   rw [Nat.zero_add,Il,List.take_of_length_le]
   rw [Bt,List.length_drop];exact Nat.le_refl _
  have hc1:∀look:Nat→Option Bk,look 0=some ⟨Az E l,ty⟩→cellsOf look E.size (.sl 0 (0+b*E.size) E.size (l.length-b) (l.length-b) false)=some (l.length-b,Az E (l.drop b)):=by
   intro look hlk
   simp only [cellsOf,hlk,Nat.beq_refl,Bool.and_true,hxs]
   rw [Nat.ble_eq_true_of_le (by rw [hel,hbe];omega),cond_true]
  have hc2:∀look:Nat→Option Bk,look 0=some ⟨Az E l,ty⟩→cellsOf look E.size (.sl 0 (0+0*E.size) E.size (a-0) (l.length-0) false)=some (a-0,Az E (l.take a)):=by
   intro look hlk
   simp only [cellsOf,hlk,Nat.beq_refl,Bool.and_true]
   rw [Nat.ble_eq_true_of_le (by rw [hel,Nat.zero_mul,Nat.sub_zero];omega),cond_true,Nat.zero_mul,Nat.add_zero,List.drop_zero,Nat.sub_zero,Ii]
  have hdl:(Az E (l.drop b)).length=(l.length-b)*E.size:=by rw [Bt,List.length_drop]
  refine Cu (xL (m:=l.length-b) (hc1 _ rfl) (by omega) (hc2 _ rfl) (b:=⟨Az E l,ty⟩) rfl (by omega) (by
   show _≤(Az E l).length
   rw [hel,Nat.add_mul,hbe,Nat.zero_mul,Nat.sub_zero];omega) hzl hp hdl (by rw [Bt,List.length_take,Nat.sub_zero,Nat.min_eq_left (by omega)]) (Ew _) (Nat.le_trans (Nat.mul_le_mul_right _ (by omega)) hr1) (by omega)) ?_
  refine Dd (by kernel_rfl) ?_
  refine Ds (v:=Aa ((a-0+(l.length-b):Nat):Int)) rfl ?_
  refine Ag ?_
  refine Ds ((s3 0 t 26 _ (a-0+(l.length-b)) (l.length-0) (0+0*E.size) false _ _ .El).2.2.2.trans (Fa (D9 (a:=a-0+(l.length-b))) (D9 (a:=l.length)) (mx:=l.length-0) rfl (by omega) (by omega) (Nat.le_refl _) rfl)) ?_
  rw [F0 (show a-0+(l.length-b)≠l.length-0 by omega),cond_false]
  have hap:(C9 (Az E l) (0+0*E.size+(a-0)*E.size) (Az E (l.drop b))).length=l.length*E.size:=by
   unfold C9
   simp only [List.length_append,List.length_take,List.length_drop,hel,hdl,hbe,Nat.zero_mul,Nat.sub_zero]
   omega
  have hq:(l.length-(a-0+(l.length-b)))*E.size=b*E.size-a*E.size:=by
   rw [show l.length-(a-0+(l.length-b))=b-a by omega,Nat.sub_mul]
  refine Dm (gA (b:=⟨C9 (Az E l) (0+0*E.size+(a-0)*E.size) (Az E (l.drop b)),ty⟩) hu hz hze hzc hzl hp rfl (by omega) (by
   show _≤(C9 (Az E l) (0+0*E.size+(a-0)*E.size) (Az E (l.drop b))).length
   rw [hap,hq,Nat.add_mul,hbe,Nat.zero_mul,Nat.sub_zero];omega)) ?_
  rw [fX]
  refine Dd rfl ?_
  obtain ⟨rest,hrest⟩:=xI (cs:=Az E l) (xs:=Az E (l.drop b)) (zs:=rep zs (l.length-(a-0+(l.length-b)))) (o:=0+0*E.size+(a-0)*E.size) (p:=0+0*E.size+(a-0+(l.length-b))*E.size) (by rw [hdl,Nat.add_mul,hbe];omega) (by rw [Tv hzl,hq,hel,Nat.add_mul,hbe,Nat.zero_mul,Nat.sub_zero];omega)
  refine hR _ _ ⟨0,l.length-0,false,rest,?_,?_⟩
  ·rw [List.length_append,List.length_take,List.length_drop,Nat.min_eq_left (by omega),Nat.zero_mul,Nat.sub_zero];rfl
  ·rw [Ef,← Ii]
   show _=some (⟨Az E l|>.take (a*E.size)|>(·++Az E (l.drop b))|>(·++rest),ty⟩:Bk)
   show some (⟨C9 (C9 (Az E l) (0+0*E.size+(a-0)*E.size) (Az E (l.drop b))) (0+0*E.size+(a-0+(l.length-b))*E.size) (rep zs (l.length-(a-0+(l.length-b)))),ty⟩:Bk)=_
   rw [hrest]
   simp only [Nat.zero_mul,Nat.add_zero,Nat.zero_add,Nat.sub_zero]
theorem Ajd {n id ty by_:Nat} {look:Nat→Option Bk} {f:FuncId} {l l0 y:List α} {i j:Int} (hE:ScE E) (hl:l0.length=l.length) (hb:look id=B9 E ty l) (h:wJ by_ l i j=some y)
  (hF:∀a b:Nat,l.length*by_≤140737488355328→l.length≤4611686018427387904→a<b→b≤l.length→Ep P gl [(0,some ⟨Az E l,ty⟩)] 1 f [.sl 0 0 E.size l.length l.length false,Aa (a:Int),Aa (b:Int)] (Tg E ty (l.take a++l.drop b))):
  Gw P gl look n f [B3 E id l0,Aa i,Aa j] (bH E n y) [(n,some ⟨Az E y,ty⟩),(id,none)]:=by
 unfold wJ at h
 split at h
 ·rename_i hc
  obtain ⟨h1,h2,h3,h4,h5⟩:=hc
  have hy:=Option.some.inj h
  obtain ⟨a,rfl⟩:=Int.eq_ofNat_of_zero_le h1
  obtain ⟨b,rfl⟩:=Int.eq_ofNat_of_zero_le (show 0≤j by omega)
  rw [Int.toNat_natCast,Int.toNat_natCast] at hy
  have:=hF a b h4 h5 (by omega) (by omega)
  rw [hy] at this
  exact Aco (args:=[Aa (a:Int),Aa (b:Int)]) (ar:=[Aa (a:Int),Aa (b:Int)]) hE hl (by rintro rfl;simp at h3;omega) hb (Ca (Li _ _) (Ca (Li _ _) D1)) (Ahh this)
 ·cases h
def Aq8 (E:En α) (id n lo k:Nat):AV:=bif Nat.beq lo n then .Dh 0 [] false else .sl id (0+lo*E.size) E.size k (n-lo) false
def neO {α:Type} (l:List α):Option Unit:=match l with|[]=>none|_::_=>some ()
theorem eI {m:Mem} {n id ty:Nat} {l xs:List α} (hx:xs≠[]) (h:n≠id):Ao (Ac m (Jj E n id ty l xs)) n=B9 E ty (l++xs):=by
 cases xs with
 |nil=>exact absurd rfl hx
 |cons x xs=>exact Sq h
theorem cC {l:List α} {u:Unit} (h:neO l=some u):l≠[]:=by rintro rfl;cases h
def Ars {α:Type} (z:α) (l y:List α) (lo:Nat):List α:=l.take lo++List.replicate y.length z++l.drop (lo+y.length)
end
end Go.Proofs.YtmechmjjcgdpdaaGreatDoor
