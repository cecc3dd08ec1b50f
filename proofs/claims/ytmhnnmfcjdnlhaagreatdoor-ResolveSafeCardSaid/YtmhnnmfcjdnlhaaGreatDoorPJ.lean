/- A part. -/
import Derived.Test.YtmhnnmfcjdnlhaaGreatDoorPI
import Derived.Sort.Grow
set_option linter.unusedVariables false
set_option linter.unusedSimpArgs false
namespace Go.Proofs.YtmhnnmfcjdnlhaaGreatDoor
open Go.RowKit
section
variable {α:Type} {E:En α} {P:Program} {K:Jz} {gl:Nat→Option (List AV)}
def R8 {α:Type} (by_:Nat) (L:List (List α)):Option (List α):=if L.length≤4611686018427387904∧L.flatten.length*by_≤281474976710656∧L.flatten.length≤4611686018427387904 then some L.flatten else none
theorem gW {by_:Nat} {L:List (List α)} {y:List α} (h:R8 by_ L=some y):y=L.flatten∧L.length≤4611686018427387904∧L.flatten.length*by_≤281474976710656∧L.flatten.length≤4611686018427387904:=by
 unfold R8 at h
 split at h
 ·rename_i hl
  cases h
  exact ⟨rfl,hl⟩
 ·cases h
theorem jB {look:Nat→Option B5} {e sz by_ n:Nat} {zs:List AV} {id off esz k cap:Nat} {ex:Bool}:app look e sz by_ zs n (.sl id off esz k cap ex) (As E ([]:List α))=some (.sl id off esz k cap ex,[]):=by
 unfold app
 simp only [cellsOf,As,List.length_nil,Nat.zero_mul,Rv,Nat.beq_refl,cond_true]
theorem fQ {look:Nat→Option B5} {e sz by_ n:Nat} {zs:List AV}:app look e sz by_ zs n .B1 (As E ([]:List α))=some (.B1,[]):=by
 unfold app
 simp only [cellsOf,As,List.length_nil,Nat.zero_mul,Rv,Nat.beq_refl,cond_true]
theorem fM {zs:List AV} (a b:Nat):rep zs (a+b)=rep zs a++rep zs b:=by
 induction a with
 |zero=>simp [rep]
 |succ a ih=>rw [Nat.add_right_comm,rep,rep,ih,List.append_assoc]
theorem qA {look:Nat→Option B5} {e by_ n id ty S:Nat} {zs:List AV} {l xs:List α} (hz:zs.length=E.size) (hb:look id=some ⟨Bl E l++rep zs (S-l.length),ty⟩) (hS:l.length+xs.length≤S) (hr:S*by_≤281474976710656) (hr2:S≤4611686018427387904):
  ∃d,app look e E.size by_ zs n (.sl id 0 E.size l.length S false) (As E xs)=some (.sl id 0 E.size (l.length+xs.length) S false,d)∧(d=[(id,some ⟨Bl E (l++xs)++rep zs (S-(l.length+xs.length)),ty⟩)]∨(d=[]∧xs=[])):=by
 cases xs with
 |nil=>exact ⟨[],by rw [jB];rfl,.inr ⟨rfl,rfl⟩⟩
 |cons x xs=>
  have hrl:=Vq (zs:=zs) (sz:=E.size) hz
  have hsub:(S-l.length)*E.size=S*E.size-l.length*E.size:=Nat.sub_mul _ _ _
  have hmul:(l.length+(x::xs).length)*E.size≤S*E.size:=Nat.mul_le_mul_right _ hS
  have hadd:(l.length+(x::xs).length)*E.size=l.length*E.size+(x::xs).length*E.size:=Nat.add_mul _ _ _
  have hc:cellsOf look E.size (.sl id 0 E.size l.length S false)=some (l.length,Bl E l):=by
   simp only [cellsOf,hb,Nat.beq_refl,Bool.and_true,Nat.zero_add,List.drop_zero]
   rw [Nat.ble_eq_true_of_le (by rw [List.length_append,Cm];omega),cond_true,← Cm,List.take_left]
  have hx:cellsOf look E.size (As E (x::xs))=some ((x::xs).length,Bl E (x::xs)):=P2 rfl _ _
  refine ⟨_,o9 (m:=(x::xs).length) hx (by simp) hc hb hS (by show _≤(Bl E l++rep zs (S-l.length)).length;rw [List.length_append,Cm,hrl,hsub];omega) hz E.pos (Cm _) (Cm _) (Ff _) (by omega),.inl ?_⟩
  have hsp:rep zs (S-l.length)=rep zs (x::xs).length++rep zs (S-(l.length+(x::xs).length)):=by
   rw [← fM];congr 1;omega
  have key:Eg (Bl E l++rep zs (S-l.length)) (0+l.length*E.size) (Bl E (x::xs))=Bl E (l++(x::xs))++rep zs (S-(l.length+(x::xs).length)):=by
   unfold Eg
   rw [Nat.zero_add,← Cm,List.take_left,hsp,← List.append_assoc,E4]
   congr 1
   have hl1:(Bl E l++rep zs (x::xs).length).length=(Bl E l).length+(Bl E (x::xs)).length:=by rw [List.length_append,hrl,Cm (x::xs)]
   rw [← hl1,List.drop_left]
  rw [key]
theorem Um {L:List (List α)} {k:Nat} (h:k<L.length):(L.take (k+1)).flatten=(L.take k).flatten++L[k]:=by
 rw [List.take_succ_eq_append_getElem h,List.flatten_append];simp
theorem Vk {L:List (List α)} (k:Nat):(L.take k).flatten.length≤L.flatten.length:=by
 conv=>rhs;rw [← List.take_append_drop k L,List.flatten_append,List.length_append]
 omega
theorem Acs {sz id S:Nat} (hS:0<S):O3 sz (.sl id 0 sz S S false) none (some (Aa 0)) none=some (.sl id 0 sz 0 S false,[]):=by
 rw [Ho (lo:=0) (hi:=0) (mx:=S) rfl rfl rfl (Nat.le_refl _) (Nat.zero_le _) (Nat.le_refl _) rfl,Hj (by omega),cond_false]
 simp
theorem Pa {zs:List AV} (h:Av zs=true):∀k,Av (rep zs k)=true
 |0=>rfl
 |k+1=>by rw [rep,Ib,h,Pa h k];rfl
theorem oE {P:Program} {look:Nat→Option B5} {t tx e sz by_ n S:Nat} {zs:List AV} {k:IntKind} (hu:P.underlying t=some (.slice e)) (hx:P.underlying tx=some (.int k)) (hz:D5 P e=some sz) (hb:Jv P e=some by_) (hze:(Gy P e).bind (fun z=>(Hc z).bind Dl)=some zs) (hzl:zs.length=sz) (hp:Nat.ble 1 sz=true) (h1:0<S) (hr:S*by_≤281474976710656) (hr2:S≤4611686018427387904):
  Jk P look n t tx .B1 (Aa (S:Int))=some (.sl n 0 sz S S false,[(n,some ⟨rep zs S,e⟩)]):=by
 unfold Jk
 simp only [hu,hx]
 unfold K8
 simp only [hz,hb,hze,hzl,hp,Nat.beq_refl,Int.toNat_natCast,Nat.ble_eq_true_of_le hr,Nat.ble_eq_true_of_le hr2,decide_eq_true (show (0:Int)<(S:Int) by omega),Bool.true_or,Bool.and_self,cond_true]
theorem Zt {t tx ty n:Nat} {look:Nat→Option B5} {x y:AV}:Cs P (.call ⟨.builtin .append,#[.tmp 0,.tmp 1],#[t,tx]⟩) ty [x,y] look n=Jk P look n t tx x y:=by simp [Cs,Nx,Jx]
theorem Vp {f:FuncId} {args:List AV} {v:AV} (hc:Av args=true) (hv:clean v=true) (h:Own P gl f args (fun u m=>freeze (Am m) 6 u=some v)):Dc P gl f args v:=by
 refine ⟨hc,hv,h.1,fun B c vals g hgl _ hr=> ?_⟩
 have hBs:=g.hB
 have hno:∀b,(c.own b∨c.no b)→b<c.w.heap.size:=by
  rintro b (⟨id,Cr,h1,h2⟩|h)
  ·rw [← h2];exact g.lt h1
  ·have:=g.K6 b h;omega
 have hst:∀b,c.Ch b→(c.alone fun b=>c.own b∨c.no b).Ch b:=fun b ⟨h1,h2,h3⟩=>⟨h1,Dd,fun h=>h.elim h2 h3⟩
 refine (h.2 c.w.heap.size (c.alone fun b=>c.own b∨c.no b) vals (Ev hno) (Dr.Cn (c:=c) rfl hst hgl) (fun _=>rfl) (fun _ h=>h) (Cf.Cn (c:=c) (c0:=c.alone fun b=>c.own b∨c.no b) rfl hst hr hc)).mono ?_
 rintro e w' ⟨u,m,nx,hv',u',c0,rfl,rfl,k1,k2,k3,k4,k5⟩
 refine ⟨u',{c with w:=c0.w},rfl,rfl,?_,G7 g k2,H6 g k2,fun _=>rfl,fun _=>Iff.rfl⟩
 refine Kv (c':={c with w:=c0.w}) k3 rfl ?_ ?_ (fun id b h=>by rw [k4];exact h) 6 k1 hv'
 ·rintro b ⟨h1,h2,h3⟩
  refine ⟨h1,fun ho=>h3 ((k2.no b).2 (.inl ho)),fun hn=>h3 ((k2.no b).2 (.inr hn))⟩
 ·rintro b ⟨id,Cr,h1,h2⟩
  have hlow:=(k3.low id Cr h1).1
  refine ⟨by rw [← h2];exact k3.lt h1,?_,fun hn=> ?_⟩
  ·rintro ⟨id',blk',h1',h2'⟩
   have:=g.lt h1'
   have e2:c.f id'=b:=h2'
   omega
  ·have:b<B:=g.K6 b hn
   omega
end
section
variable {α:Type} {E:En α} {P:Program} {gl:Nat→Option (List AV)}
def Ah9 {α:Type} (l:List α):Option Unit:=if l.length<4611686018427387904 then some () else none
inductive Aai (E:En α) (id:Nat) (l0 l:List α):List AV→List AV→Prop
 |here (xs:List AV):Aai E id l0 l (B7 E id l0::xs) (As E l::xs)
 |skip (a:AV) {xs ys:List AV} (h:Aai E id l0 l xs ys):Aai E id l0 l (a::xs) (a::ys)
end
section
variable {P:Program} {gl:Nat→Option (List AV)} {look:Nat→Option B5} {m:Mem}
def Aby:En Bool where
 size:=1
 enc p:=[.oN p]
 len _:=rfl
 pos:=by decide
 cell _:=rfl
 Di _:=rfl
 Yp _:=rfl
theorem Aby.nf:K4 Aby:=by
 intro x c hc f l
 simp only [Aby,List.mem_singleton] at hc
 subst hc
 exact fun h=>by cases h
structure Kept (w w':World):Prop where
 os:w'.os=w.os
 tape:w'.tape=w.tape
 output:w'.output=w.output
 size:w.heap.size≤w'.heap.size
 Cr:∀b,b<w.heap.size→w'.heap[b]?=w.heap[b]?
 drawn:dr w≤dr w'
theorem Kept.refl (w:World):Kept w w:=⟨rfl,rfl,rfl,Nat.le_refl _,fun _ _=>rfl,Nat.le_refl _⟩
theorem Kept.alloc (w:World) (o:Obj):Kept w (w.alloc o):=⟨rfl,rfl,rfl,by simp,fun b hb=>Below.heap_alloc w o b hb,Nat.le_refl _⟩
theorem Kept.grow (w:World) (k:Nat) (os:Array Obj):Kept w (Sort.grow (w.drewN k) os):=⟨rfl,rfl,rfl,by simp [Sort.grow],fun b hb=>by
 show ((w.heap++os:Array Obj))[b]?=_
 rw [Array.getElem?_append_left hb],xL (Nat.le_add_right _ _)⟩
end
section
variable {P:Program}
def Ail (a b:ByteArray):Option ByteArray:=if a.size+b.size≤9223372036854775807 then some (a++b) else none
end
theorem mB {P:Program} {t yt ty n:Nat} {look:Nat→Option B5} {a:Int}:Cs P (.binOp .shr t (.tmp 0) (.tmp 1) yt) ty [.sc (.int .u64 a),.sc (.int .u64 1)] look n=some (.sc (.int .u64 (a.fdiv 2)),[]):=by
 have h:Cs P (.binOp .shr t (.tmp 0) (.tmp 1) yt) ty [.sc (.int .u64 a),.sc (.int .u64 1)] look n=some (.sc (match Cd P (Op.shift .shr .u64 a .u64 1) with|some v=>v|_=>undef),[]):=rfl
 rw [h]
 simp [Op.shift,IntKind.bits]
 rfl
theorem De {π:Nat→Nat}:Nb ([]:List AV) (Hf π []):=fun _ _ h=>h
theorem Co {π:Nat→Nat} {u v:AV} {us vs:List AV} (h:Zj u (Is π v)) (hr:Nb us (Hf π vs)):Nb (u::us) (Hf π (v::vs)):=fun c xs r=>by
 cases r with
 |cons r1 r2=>exact .cons (h c _ r1) (hr c _ r2)
theorem Ln {u v:AV} (h:u=v):Zj u v:=fun _ _ r=>h ▸ r
theorem Es {α:Type} {E:En α} {π:Nat→Nat} {j id:Nat} {l l':List α} (hl:l.length=l'.length) (hj:π j=id):Zj (B7 E id l) (Is π (B7 E j l')):=Ln (by rw [Xj,hj,Xk hl])
theorem Kz {α:Type} {E:En α} {π:Nat→Nat} {j:Nat}:Zj .B1 (Is π (B7 E j [])):=Xa true
theorem C4 {s:St} {pl:List (Nat×Nat)} {id ty:Nat} {us cs:List AV} (hc:Nb us (Hf (Iu pl s.nx) cs)) (hb:Am s.m (Iu pl s.nx id)=some ⟨us,ty⟩):∀b,(some ⟨cs,ty⟩:Option B5)=some b→∃b',Am s.m (Iu pl s.nx id)=some b'∧b'.ty=b.ty∧Nb b'.cells (Hf (Iu pl s.nx) b.cells):=fun b h=>by
 cases h
 exact ⟨_,hb,rfl,hc⟩
theorem W0 {id n j:Nat} {v:Int} (h:(v==(j:Int))=true) (hj:j<n):Eb 1 (.sl id 0 1 n n true) (Aa v)=some (.ptr id j,[]):=by
 obtain rfl:=eq_of_beq h
 simp only [Eb,Aa]
 have h1:(decide (0≤(j:Int)) && decide ((j:Int)<(n:Int)))=true:=by simp;omega
 rw [h1]
 simp
theorem aV {α:Type} {E:En α} {l:List α} {i o sz:Nat} {x:α} (h:l[i]?=some x) (hle:o+sz≤E.size):((Bl E l).drop (i*E.size+o)).take sz=((E.enc x).drop o).take sz:=by
 rw [← O6 h,List.drop_take,List.take_take,List.drop_drop,Nat.min_eq_left (by omega)]
theorem Zf {α:Type} {E:En α} {look:Nat→Option B5} {id ty off o sz:Nat} {l:List α} {i:Nat} {x:α} {us:List AV} (hb:look id=some ⟨Bl E l,ty⟩) (h:l[i]?=some x) (ho:off=i*E.size+o) (hle:o+sz≤E.size) (hv:((E.enc x).drop o).take sz=us):Iv look sz (.ptr id off)=some (.agg us,[]):=by
 have h2:=Jc (E:=E) h
 have hble:Nat.ble (i*E.size+o+sz) (Bl E l).length=true:=Nat.ble_eq_true_of_le (by omega)
 simp only [Iv,hb,Ui,ho,hble,cond_true,aV h hle,hv,Option.map_some]
theorem Rc {α:Type} {E:En α} {id:Nat} {l:List α}:Dl (B7 E id l)=some [B7 E id l]:=by cases l<;>rfl
def Ahf (x:AV):Prop:=Dl x=some [x]∧Cq x=true
theorem Adf {e n:Nat} {z x y w:AV} (hx:Dl x=some [x]) (hy:Dl y=some [y]) (hw:Dl w=some [w]):Vu n e 1 3 [z] [(0,x),(1,y),(2,w)]=some (.sl n 0 1 3 3 true,[(n,some ⟨[x,y,w],e⟩)]):=by
 simp [Vu,Jm,hx,hy,hw,rep,Eg]
 rfl
theorem Wf {ρ:Type} {t:ρ} {c:Bool} {a b:Option ρ} {X:Prop} (h1:c=true→a=some t→X) (h2:c=false→b=some t→X):(bif c then a else b)=some t→X:=by
 cases c
 ·exact h2 rfl
 ·exact h1 rfl
theorem u0 {α:Type} {E:En α} {look:Nat→Option B5} (k:Nat) {id ty n:Nat} {us vs:List AV} {L:List (List α)} (hb:look id=some ⟨us,ty⟩) (h:bD look k us vs) (hn:us.length=n) (hl:L.length=n) (hv:Bl (Ct E) L=vs):Sn look (k+1) (.sl id 0 1 n n true) (As (Ct E) L):=by
 obtain ⟨ws,h1,h2⟩:=Jp k h
 have h3:(us.drop 0).take (n*1)=us:=by rw [List.drop_zero,Nat.mul_one,← hn,List.take_length]
 have h4:Nat.ble (0+n*1) us.length=true:=Nat.ble_eq_true_of_le (by omega)
 simp only [Sn,snap,hb,h4,cond_true,h3,h1,Option.map_some,norm,h2]
 rw [← hv,← hl]
theorem Ze {α:Type} {E:En α} {P:Program} {look:Nat→Option B5} {t id off ty o i sz:Nat} {l:List α} {x y:α} {cs:List AV} {k:AV→Wr→Prop} (hu:(P.underlying t).map Hz=some true) (hz:D5 P t=some sz) (hl:Nat.beq cs.length sz=true) (hv:cs.all Cq=true) (hb:look id=some ⟨Bl E l,ty⟩) (h:l[i]?=some x) (ho:off=i*E.size+o) (hlt:o+cs.length≤E.size) (hy:Eg (E.enc x) o cs=E.enc y)
  (hk:k .E9 [(id,some ⟨Bl E (l.set i y),ty⟩)]):Cw P look t (.ptr id off) (.agg cs) k:=by
 have hbd:=Jc (E:=E) h
 refine Ce hu hz hl hv hb (Nat.ble_eq_true_of_le (by omega)) ?_ hk
 rw [ho]
 exact Mw h hlt hy
theorem Vy {α:Type} {E:En α} {P:Program} {look:Nat→Option B5} {t id off ty o i sz:Nat} {l:List α} {x y:α} {cs:List AV} {k:AV→Wr→Prop} (hu:(P.underlying t).map Hz=some true) (hz:D5 P t=some sz) (hl:Nat.beq cs.length sz=true) (hv:cs.all Cq=true) (hb:look id=C7 E ty l) (h:l[i]?=some x) (ho:off=i*E.size+o) (hlt:o+cs.length≤E.size) (hy:Eg (E.enc x) o cs=E.enc y)
  (hk:k .E9 [(id,C7 E ty (l.set i y))]):Cw P look t (.ptr id off) (.agg cs) k:=
 Ze hu hz hl hv (Gd hb h) h ho hlt hy (by rw [E0 (m4 h)] at hk;exact hk)
theorem lk:(∀{m:Mem},Ag m []=m)∧(∀{m:Mem} {p:Nat×Option B5} {r:Wr},Ag m (p::r)=Ag (p::m) r)∧(∀{m:Mem} {j:Nat} {v:Option B5},Am ((j,v)::m) j=v)∧(∀{m:Mem} {j i:Nat} {v:Option B5},j≠i→Am ((j,v)::m) i=Am m i)∧
 (∀{α:Type} {E:En α} {m:Mem} {n id ty j:Nat} {l xs:List α},n≠j→id≠j→Am (Ag m (Jy E n id ty l xs)) j=Am m j)∧(∀{α:Type} {E:En α} {m:Mem} {n id ty:Nat} {l xs:List α} {x:α},n≠id→Am (Ag m (Jy E n id ty l (x::xs))) n=C7 E ty (l++x::xs))∧(∀{α:Type} {E:En α} {m:Mem} {n id ty:Nat} {l xs:List α},xs≠[]→n≠id→Am (Ag m (Jy E n id ty l xs)) n=C7 E ty (l++xs)):=
 ⟨R9,Py,cG,bY,Pw,Lb,P3⟩
theorem oR {s:St} {pl:List (Nat×Nat)} {j:Nat} {v:AV} {r:List (Nat×AV)} (hr:okW s pl r) (h:Fb s.e j=Is (Iu pl s.nx) v:=by rfl):okW s pl ((j,v)::r):=A9 (.inl (Ln h)) hr
theorem fS {m:Mem} {k:Nat} {v:Value} {r s:List AV} (hr:tE (k+1) m r s):tE (k+1) m (.sc v::r) (.sc v::s):=Ck (cD _ _) hr
theorem C9 {ρ τ:Type} {c:ρ→τ} {e:ρ→AV} {v:Value} {r:ρ} {x t:τ} {R:AV→Mem→Prop} {m:Mem} (hR:∀r:ρ,t=c r→∀u m,C2 (e r) u m→R u m) (hx:x=c r) (he:e r=.sc v):some x=some t→A2 R m [some (.sc v)]:=fun hg=>Ut (hR _ ((Option.some.inj hg).symm.trans hx)) (by rw [he];exact cD _ _)
end Go.Proofs.YtmhnnmfcjdnlhaaGreatDoor
