/- A part. -/
import Derived.Test.YtkdodbfnocdkdaaGreatDoorPI
import Derived.Sort.Grow
set_option linter.unusedVariables false
set_option linter.unusedSimpArgs false
namespace Go.Proofs.YtkdodbfnocdkdaaGreatDoor
open Go.RowKit
section
variable {α:Type} {E:En α} {P:Program} {K:Kq} {gl:Nat→Option (List AV)}
def Vb {α:Type} (by_:Nat) (L:List (List α)):Option (List α):=if L.length≤4611686018427387904∧L.flatten.length*by_≤281474976710656∧L.flatten.length≤4611686018427387904 then some L.flatten else none
theorem mQ {by_:Nat} {L:List (List α)} {y:List α} (h:Vb by_ L=some y):y=L.flatten∧L.length≤4611686018427387904∧L.flatten.length*by_≤281474976710656∧L.flatten.length≤4611686018427387904:=by
 unfold Vb at h
 split at h
 ·rename_i hl
  cases h
  exact ⟨rfl,hl⟩
 ·cases h
theorem Aag {look:Nat→Option Be} {e sz by_ n:Nat} {zs:List AV} {id off esz k cap:Nat} {ex:Bool}:app look e sz by_ zs n (.sl id off esz k cap ex) (Ar E ([]:List α))=some (.sl id off esz k cap ex,[]):=by
 unfold app
 simp only [cellsOf,Ar,List.length_nil,Nat.zero_mul,Vj,Nat.beq_refl,cond_true]
theorem oM {look:Nat→Option Be} {e sz by_ n:Nat} {zs:List AV}:app look e sz by_ zs n .Bg (Ar E ([]:List α))=some (.Bg,[]):=by
 unfold app
 simp only [cellsOf,Ar,List.length_nil,Nat.zero_mul,Vj,Nat.beq_refl,cond_true]
theorem nU {zs:List AV} (a b:Nat):rep zs (a+b)=rep zs a++rep zs b:=by
 induction a with
 |zero=>simp [rep]
 |succ a ih=>rw [Nat.add_right_comm,rep,rep,ih,List.append_assoc]
theorem Adz {look:Nat→Option Be} {e by_ n id ty S:Nat} {zs:List AV} {l xs:List α} (hz:zs.length=E.size) (hb:look id=some ⟨A0 E l++rep zs (S-l.length),ty⟩) (hS:l.length+xs.length≤S) (hr:S*by_≤281474976710656) (hr2:S≤4611686018427387904):
  ∃d,app look e E.size by_ zs n (.sl id 0 E.size l.length S false) (Ar E xs)=some (.sl id 0 E.size (l.length+xs.length) S false,d)∧(d=[(id,some ⟨A0 E (l++xs)++rep zs (S-(l.length+xs.length)),ty⟩)]∨(d=[]∧xs=[])):=by
 cases xs with
 |nil=>exact ⟨[],by rw [Aag];rfl,.inr ⟨rfl,rfl⟩⟩
 |cons x xs=>
  have hrl:=Ox (zs:=zs) (sz:=E.size) hz
  have hsub:(S-l.length)*E.size=S*E.size-l.length*E.size:=Nat.sub_mul _ _ _
  have hmul:(l.length+(x::xs).length)*E.size≤S*E.size:=Nat.mul_le_mul_right _ hS
  have hadd:(l.length+(x::xs).length)*E.size=l.length*E.size+(x::xs).length*E.size:=Nat.add_mul _ _ _
  have hc:cellsOf look E.size (.sl id 0 E.size l.length S false)=some (l.length,A0 E l):=by
   simp only [cellsOf,hb,Nat.beq_refl,Bool.and_true,Nat.zero_add,List.drop_zero]
   rw [Nat.ble_eq_true_of_le (by rw [List.length_append,Br];omega),cond_true,← Br,List.take_left]
  have hx:cellsOf look E.size (Ar E (x::xs))=some ((x::xs).length,A0 E (x::xs)):=S5 rfl _ _
  refine ⟨_,Ae4 (m:=(x::xs).length) hx (by simp) hc hb hS (by show _≤(A0 E l++rep zs (S-l.length)).length;rw [List.length_append,Br,hrl,hsub];omega) hz E.pos (Br _) (Br _) (Ew _) (by omega),.inl ?_⟩
  have hsp:rep zs (S-l.length)=rep zs (x::xs).length++rep zs (S-(l.length+(x::xs).length)):=by
   rw [← nU];congr 1;omega
  have key:Dh (A0 E l++rep zs (S-l.length)) (0+l.length*E.size) (A0 E (x::xs))=A0 E (l++(x::xs))++rep zs (S-(l.length+(x::xs).length)):=by
   unfold Dh
   rw [Nat.zero_add,← Br,List.take_left,hsp,← List.append_assoc,Ds]
   congr 1
   have hl1:(A0 E l++rep zs (x::xs).length).length=(A0 E l).length+(A0 E (x::xs)).length:=by rw [List.length_append,hrl,Br (x::xs)]
   rw [← hl1,List.drop_left]
  rw [key]
theorem Yj {L:List (List α)} {k:Nat} (h:k<L.length):(L.take (k+1)).flatten=(L.take k).flatten++L[k]:=by
 rw [List.take_succ_eq_append_getElem h,List.flatten_append];simp
theorem aU {L:List (List α)} (k:Nat):(L.take k).flatten.length≤L.flatten.length:=by
 conv=>rhs;rw [← List.take_append_drop k L,List.flatten_append,List.length_append]
 omega
theorem Aip {sz id S:Nat} (hS:0<S):Nf sz (.sl id 0 sz S S false) none (some (Aa 0)) none=some (.sl id 0 sz 0 S false,[]):=by
 rw [Fu (lo:=0) (hi:=0) (mx:=S) rfl rfl rfl (Nat.le_refl _) (Nat.zero_le _) (Nat.le_refl _) rfl,Gh (by omega),cond_false]
 simp
theorem R8 {zs:List AV} (h:Bk zs=true):∀k,Bk (rep zs k)=true
 |0=>rfl
 |k+1=>by rw [rep,It,h,R8 h k];rfl
theorem wK {P:Program} {look:Nat→Option Be} {t tx e sz by_ n S:Nat} {zs:List AV} {k:IntKind} (hu:P.underlying t=some (.slice e)) (hx:P.underlying tx=some (.int k)) (hz:Df P e=some sz) (hb:K1 P e=some by_) (hze:(Gv P e).bind (fun z=>(G0 z).bind C4)=some zs) (hzl:zs.length=sz) (hp:Nat.ble 1 sz=true) (h1:0<S) (hr:S*by_≤281474976710656) (hr2:S≤4611686018427387904):
  Kh P look n t tx .Bg (Aa (S:Int))=some (.sl n 0 sz S S false,[(n,some ⟨rep zs S,e⟩)]):=by
 unfold Kh
 simp only [hu,hx]
 unfold M8
 simp only [hz,hb,hze,hzl,hp,Nat.beq_refl,Int.toNat_natCast,Nat.ble_eq_true_of_le hr,Nat.ble_eq_true_of_le hr2,decide_eq_true (show (0:Int)<(S:Int) by omega),Bool.true_or,Bool.and_self,cond_true]
theorem gH {t tx ty n:Nat} {look:Nat→Option Be} {x y:AV}:Ce P (.call ⟨.builtin .append,#[.tmp 0,.tmp 1],#[t,tx]⟩) ty [x,y] look n=Kh P look n t tx x y:=by simp [Ce,Pz,Io]
theorem Yo {f:FuncId} {args:List AV} {v:AV} (hc:Bk args=true) (hv:clean v=true) (h:Own P gl f args (fun u m=>freeze (Al m) 6 u=some v)):Ci P gl f args v:=by
 refine ⟨hc,hv,h.1,fun B c vals g hgl _ hr=> ?_⟩
 have hBs:=g.hB
 have hno:∀b,(c.own b∨c.no b)→b<c.w.heap.size:=by
  rintro b (⟨id,By,h1,h2⟩|h)
  ·rw [← h2];exact g.lt h1
  ·have:=g.Jg b h;omega
 have hst:∀b,c.Bx b→(c.alone fun b=>c.own b∨c.no b).Bx b:=fun b ⟨h1,h2,h3⟩=>⟨h1,Ct,fun h=>h.elim h2 h3⟩
 refine (h.2 c.w.heap.size (c.alone fun b=>c.own b∨c.no b) vals (Eb hno) (Cw.Ca (c:=c) rfl hst hgl) (fun _=>rfl) (fun _ h=>h) (Bm.Ca (c:=c) (c0:=c.alone fun b=>c.own b∨c.no b) rfl hst hr hc)).mono ?_
 rintro e w' ⟨u,m,nx,hv',u',c0,rfl,rfl,k1,k2,k3,k4,k5⟩
 refine ⟨u',{c with w:=c0.w},rfl,rfl,?_,G2 g k2,Hv g k2,fun _=>rfl,fun _=>Iff.rfl⟩
 refine L1 (c':={c with w:=c0.w}) k3 rfl ?_ ?_ (fun id b h=>by rw [k4];exact h) 6 k1 hv'
 ·rintro b ⟨h1,h2,h3⟩
  refine ⟨h1,fun ho=>h3 ((k2.no b).2 (.inl ho)),fun hn=>h3 ((k2.no b).2 (.inr hn))⟩
 ·rintro b ⟨id,By,h1,h2⟩
  have hlow:=(k3.low id By h1).1
  refine ⟨by rw [← h2];exact k3.lt h1,?_,fun hn=> ?_⟩
  ·rintro ⟨id',blk',h1',h2'⟩
   have:=g.lt h1'
   have e2:c.f id'=b:=h2'
   omega
  ·have:b<B:=g.Jg b hn
   omega
end
section
variable {α:Type} {E:En α} {P:Program} {gl:Nat→Option (List AV)}
def At6 {α:Type} (l:List α):Option Unit:=if l.length<4611686018427387904 then some () else none
inductive Ag9 (E:En α) (id:Nat) (l0 l:List α):List AV→List AV→Prop
 |here (xs:List AV):Ag9 E id l0 l (Bh E id l0::xs) (Ar E l::xs)
 |skip (a:AV) {xs ys:List AV} (h:Ag9 E id l0 l xs ys):Ag9 E id l0 l (a::xs) (a::ys)
end
section
variable {P:Program} {gl:Nat→Option (List AV)} {look:Nat→Option Be} {m:Mem}
def Aho:En Bool where
 size:=1
 enc p:=[.w8 p]
 len _:=rfl
 pos:=by decide
 cell _:=rfl
 Q0 _:=rfl
 Uv _:=rfl
theorem Aho.nf:Ke Aho:=by
 intro x c hc f l
 simp only [Aho,List.mem_singleton] at hc
 subst hc
 exact fun h=>by cases h
structure Kept (w w':World):Prop where
 os:w'.os=w.os
 tape:w'.tape=w.tape
 output:w'.output=w.output
 size:w.heap.size≤w'.heap.size
 By:∀b,b<w.heap.size→w'.heap[b]?=w.heap[b]?
 drawn:dr w≤dr w'
theorem Kept.refl (w:World):Kept w w:=⟨rfl,rfl,rfl,Nat.le_refl _,fun _ _=>rfl,Nat.le_refl _⟩
theorem Kept.alloc (w:World) (o:Obj):Kept w (w.alloc o):=⟨rfl,rfl,rfl,by simp,fun b hb=>Below.heap_alloc w o b hb,Nat.le_refl _⟩
theorem Kept.grow (w:World) (k:Nat) (os:Array Obj):Kept w (Sort.grow (w.drewN k) os):=⟨rfl,rfl,rfl,by simp [Sort.grow],fun b hb=>by
 show ((w.heap++os:Array Obj))[b]?=_
 rw [Array.getElem?_append_left hb],bB (Nat.le_add_right _ _)⟩
theorem X6 {c:Cx} {w':World} (h:Kept c.w w'):Step c {c with w:=w'} where
 os:=h.os
 tape:=h.tape
 output:=h.output
 size:=h.size
 By:=fun b hb _=>h.By b hb
 own:=fun b hb ho=>ho
 f:=fun _ _=>rfl
 al:=fun _ h=>h
 no:=fun _=>Iff.rfl
 Xm:=fun b arr T hb=>⟨arr,(h.By b (E9 hb)).trans hb,rfl⟩
 drawn:=h.drawn
theorem pU {B:Nat} {c:Cx} {w':World} (g:Good B c) (h:Kept c.w w'):Good B {c with w:=w'}:=
 ⟨Nat.le_trans g.hB h.size,g.low,fun id b hb=>by
  obtain ⟨arr,vs,rest,q1,q2,q3⟩:=g.By id b hb
  exact ⟨arr,vs,rest,(h.By _ (E9 q1)).trans q1,q2,q3.step (X6 h)⟩,g.Jg,g.inj⟩
theorem Kw {f:FuncId} {args:List AV} {v:AV} (hp:E8 P f) (hc:Bk args=true) (hv:clean v=true)
  (h:∀(B:Nat) (c:Cx) (vals:List Value),Good B c→Cw gl c→Bm c args vals→Calls P f vals.toArray c.w (fun e w'=>∃v',e=.returned v'∧Kept c.w w'∧Bo {c with w:=w'} v v')):Ci P gl f args v:=by
 refine ⟨hc,hv,hp,fun B c vals g hgl _ hr=>(h B c vals g hgl hr).mono ?_⟩
 rintro e w' ⟨v',rfl,hk,hvr⟩
 exact ⟨v',{c with w:=w'},rfl,rfl,hvr,X6 hk,pU g hk,fun _=>rfl,fun _=>Iff.rfl⟩
theorem Zx {B:Nat} {c:Cx} {w':World} (g:Good B c) (h:c.w.heap.size<w'.heap.size):Cx.Bx {c with w:=w'} c.w.heap.size:=by
 refine ⟨h,?_,fun hno=> ?_⟩
 ·rintro ⟨id,b,h1,h2⟩
  have:=g.lt h1
  have h2:c.f id=c.w.heap.size:=h2
  omega
 ·have h1:c.w.heap.size<B:=g.Jg _ hno
  have:=g.hB
  omega
end
section
variable {P:Program}
def Ws (a b:ByteArray):Option ByteArray:=if a.size+b.size≤9223372036854775807 then some (a++b) else none
theorem Lj {t yt ty n:Nat} {look:Nat→Option Be} {a b r:ByteArray} (h:Ws a b=some r):Ce P (.binOp .add t (.tmp 0) (.tmp 1) yt) ty [An a,An b] look n=some (An r,[]):=by
 unfold Ws at h
 split at h
 ·rename_i hl
  cases h
  have hn:¬(((a.size+b.size:Nat):Int)>IntKind.i64.max):=by
   have:IntKind.i64.max=9223372036854775807:=by decide
   rw [this];omega
  have e0:Ce P (.binOp .add t (.tmp 0) (.tmp 1) yt) ty [An a,An b] look n=nR P (Io [An a,An b]) ⟨none,.binOp .add t (.tmp 0) (.tmp 1) yt,ty, "",#[],none⟩ .add t (.tmp 0) (.tmp 1):=by simp [Ce,Pz]
  rw [e0]
  have h0:Io [An a,An b] (.tmp 0)=some (An a):=rfl
  have h1:Io [An a,An b] (.tmp 1)=some (An b):=rfl
  unfold nR
  rw [h0,h1]
  simp only [L6]
  unfold Hu
  have e1:(Lp (.binOp .add t (.tmp 0) (.tmp 1) yt) && Rj (Io [An a,An b]) (Op.operands (.binOp .add t (.tmp 0) (.tmp 1) yt)).toList)=true:=rfl
  simp only [e1,cond_true]
  have e2:B5 P (execOp (fun x=>(Km (Io [An a,An b]) x).getD undef) {dst:=none,op:=.binOp .add t (.tmp 0) (.tmp 1) yt,type:=ty,pos:= "",after:=#[],guard:=none})=some (.value (.string (a++b))):=by
   have v0:((Km (Io [An a,An b]) (.tmp 0)).getD undef)=.string a:=rfl
   have v1:((Km (Io [An a,An b]) (.tmp 1)).getD undef)=.string b:=rfl
   simp only [execOp,v0,v1,C6,eqGuard,binOp,Op.stringOp]
   rw [if_neg hn]
   rfl
  rw [e2]
  rfl
 ·cases h
end
theorem uZ {P:Program} {t yt ty n:Nat} {look:Nat→Option Be} {a:Int}:Ce P (.binOp .shr t (.tmp 0) (.tmp 1) yt) ty [.sc (.int .u64 a),.sc (.int .u64 1)] look n=some (.sc (.int .u64 (a.fdiv 2)),[]):=by
 have h:Ce P (.binOp .shr t (.tmp 0) (.tmp 1) yt) ty [.sc (.int .u64 a),.sc (.int .u64 1)] look n=some (.sc (match B5 P (Op.shift .shr .u64 a .u64 1) with|some v=>v|_=>undef),[]):=rfl
 rw [h]
 simp [Op.shift,IntKind.bits]
 rfl
theorem C9 {π:Nat→Nat}:P9 ([]:List AV) (H3 π []):=fun _ _ h=>h
theorem Cj {π:Nat→Nat} {u v:AV} {us vs:List AV} (h:gD u (Ja π v)) (hr:P9 us (H3 π vs)):P9 (u::us) (H3 π (v::vs)):=fun c xs r=>by
 cases r with
 |cons r1 r2=>exact .cons (h c _ r1) (hr c _ r2)
theorem Ms {u v:AV} (h:u=v):gD u v:=fun _ _ r=>h ▸ r
theorem Ey {α:Type} {E:En α} {π:Nat→Nat} {j id:Nat} {l l':List α} (hl:l.length=l'.length) (hj:π j=id):gD (Bh E id l) (Ja π (Bh E j l')):=Ms (by rw [bZ,hj,bC hl])
theorem Ly {α:Type} {E:En α} {π:Nat→Nat} {j:Nat}:gD .Bg (Ja π (Bh E j [])):=U3 true
theorem Cv {s:St} {pl:List (Nat×Nat)} {id ty:Nat} {us cs:List AV} (hc:P9 us (H3 (Iz pl s.nx) cs)) (hb:Al s.m (Iz pl s.nx id)=some ⟨us,ty⟩):∀b,(some ⟨cs,ty⟩:Option Be)=some b→∃b',Al s.m (Iz pl s.nx id)=some b'∧b'.ty=b.ty∧P9 b'.cells (H3 (Iz pl s.nx) b.cells):=fun b h=>by
 cases h
 exact ⟨_,hb,rfl,hc⟩
theorem Yq {id n j:Nat} {v:Int} (h:(v==(j:Int))=true) (hj:j<n):De 1 (.sl id 0 1 n n true) (Aa v)=some (.ptr id j,[]):=by
 obtain rfl:=eq_of_beq h
 simp only [De,Aa]
 have h1:(decide (0≤(j:Int)) && decide ((j:Int)<(n:Int)))=true:=by simp;omega
 rw [h1]
 simp
theorem gK {α:Type} {E:En α} {l:List α} {i o sz:Nat} {x:α} (h:l[i]?=some x) (hle:o+sz≤E.size):((A0 E l).drop (i*E.size+o)).take sz=((E.enc x).drop o).take sz:=by
 rw [← N8 h,List.drop_take,List.take_take,List.drop_drop,Nat.min_eq_left (by omega)]
theorem dY {α:Type} {E:En α} {look:Nat→Option Be} {id ty off o sz:Nat} {l:List α} {i:Nat} {x:α} {us:List AV} (hb:look id=some ⟨A0 E l,ty⟩) (h:l[i]?=some x) (ho:off=i*E.size+o) (hle:o+sz≤E.size) (hv:((E.enc x).drop o).take sz=us):Hj look sz (.ptr id off)=some (.agg us,[]):=by
 have h2:=G9 (E:=E) h
 have hble:Nat.ble (i*E.size+o+sz) (A0 E l).length=true:=Nat.ble_eq_true_of_le (by omega)
 simp only [Hj,hb,Xw,ho,hble,cond_true,gK h hle,hv,Option.map_some]
theorem Vx {α:Type} {E:En α} {id:Nat} {l:List α}:C4 (Bh E id l)=some [Bh E id l]:=by cases l<;>rfl
def Ats (x:AV):Prop:=C4 x=some [x]∧Cl x=true
theorem Amd {e n:Nat} {z x y w:AV} (hx:C4 x=some [x]) (hy:C4 y=some [y]) (hw:C4 w=some [w]):Th n e 1 3 [z] [(0,x),(1,y),(2,w)]=some (.sl n 0 1 3 3 true,[(n,some ⟨[x,y,w],e⟩)]):=by
 simp [Th,Kl,hx,hy,hw,rep,Dh]
 rfl
theorem aK {ρ:Type} {t:ρ} {c:Bool} {a b:Option ρ} {X:Prop} (h1:c=true→a=some t→X) (h2:c=false→b=some t→X):(bif c then a else b)=some t→X:=by
 cases c
 ·exact h2 rfl
 ·exact h1 rfl
theorem Adb {α:Type} {E:En α} {look:Nat→Option Be} (k:Nat) {id ty n:Nat} {us vs:List AV} {L:List (List α)} (hb:look id=some ⟨us,ty⟩) (h:aV look k us vs) (hn:us.length=n) (hl:L.length=n) (hv:A0 (Cr E) L=vs):Sn look (k+1) (.sl id 0 1 n n true) (Ar (Cr E) L):=by
 obtain ⟨ws,h1,h2⟩:=Ix k h
 have h3:(us.drop 0).take (n*1)=us:=by rw [List.drop_zero,Nat.mul_one,← hn,List.take_length]
 have h4:Nat.ble (0+n*1) us.length=true:=Nat.ble_eq_true_of_le (by omega)
 simp only [Sn,snap,hb,h4,cond_true,h3,h1,Option.map_some,norm,h2]
 rw [← hv,← hl]
theorem fT {α:Type} {E:En α} {P:Program} {look:Nat→Option Be} {t id off ty o i sz:Nat} {l:List α} {x y:α} {cs:List AV} {k:AV→Wr→Prop} (hu:(P.underlying t).map Hh=some true) (hz:Df P t=some sz) (hl:Nat.beq cs.length sz=true) (hv:cs.all Cl=true) (hb:look id=some ⟨A0 E l,ty⟩) (h:l[i]?=some x) (ho:off=i*E.size+o) (hlt:o+cs.length≤E.size) (hy:Dh (E.enc x) o cs=E.enc y)
  (hk:k .Es [(id,some ⟨A0 E (l.set i y),ty⟩)]):B4 P look t (.ptr id off) (.agg cs) k:=by
 have hbd:=G9 (E:=E) h
 refine Ba hu hz hl hv hb (Nat.ble_eq_true_of_le (by omega)) ?_ hk
 rw [ho]
 exact Ph h hlt hy
theorem Z9 {α:Type} {E:En α} {P:Program} {look:Nat→Option Be} {t id off ty o i sz:Nat} {l:List α} {x y:α} {cs:List AV} {k:AV→Wr→Prop} (hu:(P.underlying t).map Hh=some true) (hz:Df P t=some sz) (hl:Nat.beq cs.length sz=true) (hv:cs.all Cl=true) (hb:look id=Cn E ty l) (h:l[i]?=some x) (ho:off=i*E.size+o) (hlt:o+cs.length≤E.size) (hy:Dh (E.enc x) o cs=E.enc y)
  (hk:k .Es [(id,Cn E ty (l.set i y))]):B4 P look t (.ptr id off) (.agg cs) k:=
 fT hu hz hl hv (Ft hb h) h ho hlt hy (by rw [C7 (iO h)] at hk;exact hk)
theorem lk:(∀{m:Mem},Ad m []=m)∧(∀{m:Mem} {p:Nat×Option Be} {r:Wr},Ad m (p::r)=Ad (p::m) r)∧(∀{m:Mem} {j:Nat} {v:Option Be},Al ((j,v)::m) j=v)∧(∀{m:Mem} {j i:Nat} {v:Option Be},j≠i→Al ((j,v)::m) i=Al m i)∧
 (∀{α:Type} {E:En α} {m:Mem} {n id ty j:Nat} {l xs:List α},n≠j→id≠j→Al (Ad m (Jf E n id ty l xs)) j=Al m j)∧(∀{α:Type} {E:En α} {m:Mem} {n id ty:Nat} {l xs:List α} {x:α},n≠id→Al (Ad m (Jf E n id ty l (x::xs))) n=Cn E ty (l++x::xs))∧(∀{α:Type} {E:En α} {m:Mem} {n id ty:Nat} {l xs:List α},xs≠[]→n≠id→Al (Ad m (Jf E n id ty l xs)) n=Cn E ty (l++xs)):=
 ⟨jK,fP,mN,Z5,eT,S1,eW⟩
theorem oR {s:St} {pl:List (Nat×Nat)} {j:Nat} {v:AV} {r:List (Nat×AV)} (hr:okW s pl r) (h:Fl s.e j=Ja (Iz pl s.nx) v:=by rfl):okW s pl ((j,v)::r):=Fv (.inl (Ms h)) hr
theorem fS {m:Mem} {k:Nat} {v:Value} {r s:List AV} (hr:FzL (k+1) m r s):FzL (k+1) m (.sc v::r) (.sc v::s):=Bd (kP _ _) hr
theorem rt1 {ρ τ:Type} {c:ρ→τ} {e:ρ→AV} {v:Value} {r:ρ} {x t:τ} {R:AV→Mem→Prop} {m:Mem} (hR:∀r:ρ,t=c r→∀u m,Dv (e r) u m→R u m) (hx:x=c r) (he:e r=.sc v):some x=some t→As R m [some (.sc v)]:=fun hg=>Zd (hR _ ((Option.some.inj hg).symm.trans hx)) (by rw [he];exact kP _ _)
end Go.Proofs.YtkdodbfnocdkdaaGreatDoor
