/- Parts Cg, Cp, CpW, Cso, Ow, Ca. -/
import Derived.Test.YtmechmjjcgdpdaaGreatDoorTcK
import Derived.Test.YtmechmjjcgdpdaaGreatDoorX1E1
import Derived.Laws.OwnMore
import Derived.Test.YtmechmjjcgdpdaaGreatDoorPT
import Derived.Test.YtmechmjjcgdpdaaGreatDoorPO
set_option linter.unusedVariables false
set_option linter.unusedSimpArgs false
namespace Go.Proofs.YtmechmjjcgdpdaaGreatDoor
open Go.RowKit Go.Shelf
attribute [local go_sem] Oper.semAt_some
theorem Wz {α:Type} {E:En α} {no:Nat→Prop} {w:World} {o:List α} {v:Value} (hr:A9 (D8 no w) (Ai E o) v):∃a cap cs,v=.slice a o.length cap∧(a=none→o.length=0)∧cs.length=o.length*E.size∧Be (D8 no w) (Az E o) cs∧∀ad,a=some ad→∀k u,cs[k]?=some u→w.cell? (ad.add k)=some u∧ad.block<w.heap.size:=by
 unfold Ai at hr
 generalize hcs:Az E o=es at hr
 generalize hq:o.length=q at hr
 cases hr with
 |Dy a cap ex he hm hn=>
  have h0:o=[]:=List.eq_nil_of_length_eq_zero hq
  subst h0
  exact ⟨a,cap,[],rfl,fun _=>rfl,by simp,hcs ▸ .nil,fun ad _ k u hu=>by simp at hu⟩
 |Dh hb h hc hn he hm=>
  rename_i b off vs cap
  refine ⟨_,_,vs,rfl,(fun h=>by cases h),?_,h,fun ad had k u hu=> ?_⟩
  ·have h1:=h.length
   rw [← h1,← hcs,Bt,hq]
  ·cases had
   refine ⟨?_,hb.1⟩
   have:=hc k u hu
   rwa [show (⟨b,off,none⟩:Addr).add k=⟨b,off+k,none⟩ by unfold Addr.add;split<;>simp_all]
theorem Se {c:Cx}:∀{xs:List AV} {vs:List Value},Be c xs vs→(∀x∈xs,B7 x=true)→∀u∈vs,u.oneCell'=true
 |[],_,.nil,_,u,hu=>by simp at hu
 |x::xs,_,.cons h t,q,u,hu=>by
  rcases List.mem_cons.1 hu with rfl|hu
  ·exact Up h (q x (by simp))
  ·exact Se t (fun x hx=>q x (by simp [hx])) u hu
theorem Xi {α:Type} {E:En α} (h:∀x,∀a∈E.enc x,B7 a=true) (l:List α):∀a∈Az E l,B7 a=true:=by
 induction l with
 |nil=>intro a ha;simp [Az] at ha
 |cons x l ih=>
  intro a ha
  rw [Ch] at ha
  rcases List.mem_append.1 ha with q|q
  ·exact h x a q
  ·exact ih a q
theorem bW {α:Type} {E:En α} {no:Nat→Prop} {base:Nat} {T:TypeId} {w:World} {l:List α} {v:Value} {cs:List Value} (h:w.ownsRow base T E.size v l.length cs) (hr:Be (D8 no w) (Az E l) cs) (hn:∀k,no k→k<base):A9 (D8 no w) (Ai E l) v:=by
 rcases h.2 with ⟨hv0,hl0⟩|⟨gb,cap,cur,rfl,hbg,hg,hle,hmx,hsz,htk⟩
 ·rw [hv0,List.eq_nil_of_length_eq_zero hl0]
  exact .Dy none 0 false (fun h=>by cases h) (Nat.zero_le _) (fun _=>rfl)
 ·refine .Dh (b:=gb) (o:=0) (vs:=cs) ⟨Ck hg,Gg _,fun q=>by have:=hn gb q;omega⟩ hr (fun k u hu=> ?_) hle (fun h=>by cases h) hmx
  have:=h.cells (g:=gb) rfl k u hu
  rw [Nat.zero_add]
  rwa [show (⟨gb,0,none⟩:Addr).add k=⟨gb,k,none⟩ by unfold Addr.add;split<;>simp_all] at this
theorem Jn {w w3 w4:World} {row:Option Nat} (hk:Kept w w3) (hg:w3.grownBy w4 row) (hr:∀b,row=some b→w.heap.size≤b) (hd:w3.drawn≤w4.drawn):Kept w w4:=by
 have hs:=hk.size
 refine ⟨hg.os.trans hk.os,hg.tape.trans hk.tape,hg.output.trans hk.output,Nat.le_trans hs hg.size,fun k hlt=> ?_,Nat.le_trans hk.drawn (Lk hd)⟩
 exact (hg.block k (by omega) (fun e=>by have:=hr k e.symm;omega)).trans (hk.Bd k hlt)
theorem Zn {w:World} {base:Nat} {e:TypeId} {sz:Nat} {v:Value} {k:Nat} {xs:List Value} (h:w.ownsRow base e sz v k xs):∀b,v.ownBlock=some b→base≤b:=by
 intro b hb
 rcases h.2 with ⟨q,-⟩|⟨g,c3,cur,q,q2,-⟩
 ·rw [q] at hb;cases hb
 ·rw [q] at hb;cases hb;exact q2
theorem lG {w:World} {b:Nat} {x y:Value} {T:TypeId} (h:w.heap[b]?=some (.cells #[x,y] T (0,0))):w.cell? ⟨b,0,none⟩=some x∧w.cell? ⟨b,1,none⟩=some y:=by simp [World.cell?,h]
theorem Kd {w w':World} {base:Nat} {e:TypeId} {sz:Nat} {v:Value} {k:Nat} {xs:List Value} (h:w.ownsRow base e sz v k xs) (hk:Kept w w'):w'.ownsRow base e sz v k xs:=by
 refine ⟨h.1,?_⟩
 rcases h.2 with q|⟨g,cap,cur,q1,q2,q3,q4⟩
 ·exact .inl q
 ·exact .inr ⟨g,cap,cur,q1,q2,(hk.Bd g (Ck q3)).trans q3,q4⟩
theorem Dj {w:World} {base:Nat} {e:TypeId} {sz:Nat} {v:Value} {k:Nat} {xs:List Value} (h:w.ownsRow base e sz v k xs):∃a cap,v=.slice a k cap:=by
 rcases h.2 with ⟨q1,q2⟩|⟨g,cap,cur,q1,-⟩
 ·exact ⟨none,0,by rw [q1,q2]⟩
 ·exact ⟨_,_,q1⟩
theorem iY {c:Cx} (h:B2 KK.gl c):B2 KK.gl (D8 (fun _=>False) c.w):=B2.B1 (c:=c) rfl (fun b ⟨q1,q2,q3⟩=>⟨q1,Gg b,fun h=>h⟩) h
theorem Js {f:FuncId} {args:List AV} {v:AV} (h:Cj Tryz.prog KK.gl f args v) {w:World} (hG:B2 KK.gl (D8 (fun _=>False) w)) {vals:List Value} (hr:Be (D8 (fun _=>False) w) args vals) (W:World) (hk:Kept w W):
  Calls Tryz.prog f vals.toArray W (fun e w'=>∃v',e=.returned v'∧Kept W w'∧A9 (D8 (fun _=>False) w') v v'):=
 callsIn_wide.1 (Ahk h (fun b hb=>hb.elim) (hG.gH (hk.gH _)) ((hk.gH _).Anx hr h.1) 0)
theorem iR {w:World} {base b':Nat} {e:TypeId} {sz:Nat} {v:Value} {k:Nat} {xs:List Value} (h:w.ownsRow base e sz v k xs) (hb:b'≤base):w.ownsRow b' e sz v k xs:=
 ⟨h.1,h.2.imp id fun ⟨g,cap,cur,q1,q2,q3⟩=>⟨g,cap,cur,q1,Nat.le_trans hb q2,q3⟩⟩
theorem Aa3 {w:World} {x:AV} {v:Value} (r:A9 (D8 (fun _=>False) w) x v) (q:clean x=true):A9 (D8 (fun k=>w.heap.size≤k) w) x v:=Aji r q (fun b hb h=>by omega)
theorem Ry {c:Cx} {x:AV} {v:Value} (r:A9 c x v) (q:clean x=true):A9 (D8 (fun _=>False) c.w) x v:=r.Hp (c:=c) (c':=D8 (fun _=>False) c.w) (fun b ⟨q1,_,_⟩=>⟨q1,Gg b,fun h=>h⟩) (fun _ _ _ _ hc=>hc) q
theorem Zz {B:Nat} {c:Cx} (g:Good B c) {w':World} {x:AV} {v:Value} (r:A9 (D8 (fun k=>k<c.w.heap.size) w') x v) (q:clean x=true):A9 {c with w:=w'} x v:=by
 refine r.Hp (c:=D8 (fun k=>k<c.w.heap.size) w') (c':={c with w:=w'}) (fun b ⟨q1,_,q3⟩=>⟨q1,?_,fun hq=> ?_⟩) (fun _ _ _ _ hc=>hc) q
 ·rintro ⟨id,bk,p1,p2⟩
  have:=g.lt p1
  have p2:c.f id=b:=p2
  exact q3 (show b<c.w.heap.size by omega)
 ·have:=g.Lj b hq
  have:=g.hB
  exact q3 (show b<c.w.heap.size by omega)
theorem bT:((Tryz.prog.info? 9).bind fun i=>i.zero.map fun z=>(z.cells.size,i.size,i.bytes))=some (1,1,16):=by kernel_rfl
set_option maxRecDepth 100000 in
set_option maxHeartbeats 2000000 in
theorem zP {no:Nat→Prop} {w:World} {o:List ByteArray} {v:Value} (hr:A9 (D8 no w) (Ai Aw o) v) (ho:o.length*16≤140737488355328) (ho2:o.length≤4611686018427387904) (n:Nat):
  CallsIn Fence.wide n Tryz.prog 127 #[v] w (fun e w'=>∃v' cs,e=.returned v'∧Kept w w'∧w'.ownsRow w.heap.size 9 1 v' o.length cs∧Be (D8 no w) (Az Aw o) cs):=by
 obtain ⟨i0,hi,hzz⟩:=Option.bind_eq_some_iff.1 bT
 obtain ⟨z0,hz0,hzz⟩:=Option.map_eq_some_iff.1 hzz
 simp only [Prod.mk.injEq] at hzz
 obtain ⟨hzc,hz1,hz2⟩:=hzz
 obtain ⟨a,cap,cs,rfl,hnil,hlen,hrel,hcell⟩:=Wz hr
 have hone:=Se hrel (Xi (by intro x a ha;simp only [Aw,List.mem_cons,List.not_mem_nil,or_false] at ha;rw [ha];rfl) o)
 have hlen:cs.length=o.length*1:=hlen
 have hq:=fun wx=>Lib.run_eql_slice_nil (P:=Tryz.prog) wx 29 9 a o.length cap 0 0 Tryz.underlying29
 refine callsIn_of_wp Tryz.func127 rfl trivial ?_ rfl
 simp only [Tryz.ntmps127,List.size_toArray,List.length_cons,List.length_nil,Nat.reduceAdd,Nat.reduceSub,Array.replicate_succ,Array.replicate_zero,List.push_toArray,List.append_toArray,List.nil_append,List.cons_append]
 cases a with
 |none=>
  have h0:=hnil rfl
  have h1:o=[]:=List.eq_nil_of_length_eq_zero h0
  subst h1
  simp only [Option.isNone,List.length_nil] at hq
  have hcs:cs=[]:=List.eq_nil_of_length_eq_zero (by simpa using hlen)
  have HR:=Lib.hid hrel
  clear hcell hrel hr
  gi_wp2
  go_ret
  refine ⟨_,rfl,Kept.refl _,cs,?_,HR.out⟩
  rw [hcs]
  exact World.ownsRow_nil _ _ _ _
 |some ad=>
  simp only [Option.isNone] at hq
  have hc:=hcell ad rfl
  have HR:=Lib.hid hrel
  clear hcell hnil hrel hr
  gi_wp2_with (gi_at_builtin;refine dC _ rfl _ _ 29 rfl w.heap.size 9 i0 z0 1 16 Tryz.underlying29 hi hz0 hz1 hz2 hzc (by decide) _ 0 [] rfl ?c0 ad o.length cap cs rfl ?c1 ?c2 ?c3 ?c4 ?c5 ?c6 ?_)
  case c0=>exact ⟨by simp,.inr ⟨_,_,_,rfl,Nat.le_refl _,World.alloc_heap_new _ _,Nat.le_refl _,by decide,rfl,rfl⟩⟩
  case c1=>exact hlen
  case c2=>
   intro j u hj
   obtain ⟨q1,q2⟩:=hc j u hj
   rw [← q1]
   have hb:(ad.add j).block=ad.block:=by unfold Addr.add;split<;>rfl
   exact World.cell?_alloc_lt _ _ _ (by rw [hb];exact q2)
  case c3=>exact hone
  case c4=>simp only [maxLen];omega
  case c5=>omega
  case c6=>simp
  intro v' w1 hown hgrow hiff hdr
  gi_wp2
  go_ret
  refine ⟨v',cs,rfl,⟨hgrow.os,hgrow.tape,hgrow.output,by have:=hgrow.size;simp at this;omega,fun k hk=>(hgrow.block k (by simp;omega) (fun e=>by simp [Value.ownBlock] at e;omega)).trans (Below.heap_alloc _ _ k hk),Lk hdr⟩,by simpa using hown,HR.out⟩
theorem Yp:((Tryz.prog.info? 37).bind fun i=>i.zero.map fun z=>(z.cells.size,i.size,i.bytes))=some (2,2,40):=by kernel_rfl
set_option maxRecDepth 100000 in
set_option maxHeartbeats 2000000 in
theorem zS {no:Nat→Prop} {w:World} {o:List Ab} {v:Value} (hr:A9 (D8 no w) (Ai Ab.E o) v) (ho:o.length*40≤140737488355328) (ho2:o.length≤4611686018427387904) (n:Nat):
  CallsIn Fence.wide n Tryz.prog 126 #[v] w (fun e w'=>∃v' cs,e=.returned v'∧Kept w w'∧w'.ownsRow w.heap.size 37 2 v' o.length cs∧Be (D8 no w) (Az Ab.E o) cs):=by
 obtain ⟨i0,hi,hzz⟩:=Option.bind_eq_some_iff.1 Yp
 obtain ⟨z0,hz0,hzz⟩:=Option.map_eq_some_iff.1 hzz
 simp only [Prod.mk.injEq] at hzz
 obtain ⟨hzc,hz1,hz2⟩:=hzz
 obtain ⟨a,cap,cs,rfl,hnil,hlen,hrel,hcell⟩:=Wz hr
 have hone:=Se hrel (Xi (by intro x a ha;simp only [Ab.E,List.mem_cons,List.not_mem_nil,or_false] at ha;rcases ha with rfl|rfl<;>rfl) o)
 have hlen:cs.length=o.length*2:=hlen
 have hq:=fun wx=>Lib.run_eql_slice_nil (P:=Tryz.prog) wx 33 37 a o.length cap 0 0 Tryz.underlying33
 refine callsIn_of_wp Tryz.func126 rfl trivial ?_ rfl
 simp only [Tryz.ntmps126,List.size_toArray,List.length_cons,List.length_nil,Nat.reduceAdd,Nat.reduceSub,Array.replicate_succ,Array.replicate_zero,List.push_toArray,List.append_toArray,List.nil_append,List.cons_append]
 cases a with
 |none=>
  have h0:=hnil rfl
  have h1:o=[]:=List.eq_nil_of_length_eq_zero h0
  subst h1
  simp only [Option.isNone,List.length_nil] at hq
  have hcs:cs=[]:=List.eq_nil_of_length_eq_zero (by simpa using hlen)
  have HR:=Lib.hid hrel
  clear hcell hrel hr
  gi_wp2
  go_ret
  refine ⟨_,rfl,Kept.refl _,cs,?_,HR.out⟩
  rw [hcs]
  exact World.ownsRow_nil _ _ _ _
 |some ad=>
  simp only [Option.isNone] at hq
  have hc:=hcell ad rfl
  have HR:=Lib.hid hrel
  clear hcell hnil hrel hr
  gi_wp2_with (gi_at_builtin;refine dC _ rfl _ _ 33 rfl w.heap.size 37 i0 z0 2 40 Tryz.underlying33 hi hz0 hz1 hz2 hzc (by decide) _ 0 [] rfl ?c0 ad o.length cap cs rfl ?c1 ?c2 ?c3 ?c4 ?c5 ?c6 ?_)
  case c0=>exact ⟨by simp,.inr ⟨_,_,_,rfl,Nat.le_refl _,World.alloc_heap_new _ _,Nat.le_refl _,by decide,rfl,rfl⟩⟩
  case c1=>exact hlen
  case c2=>
   intro j u hj
   obtain ⟨q1,q2⟩:=hc j u hj
   rw [← q1]
   have hb:(ad.add j).block=ad.block:=by unfold Addr.add;split<;>rfl
   exact World.cell?_alloc_lt _ _ _ (by rw [hb];exact q2)
  case c3=>exact hone
  case c4=>simp only [maxLen];omega
  case c5=>omega
  case c6=>simp
  intro v' w1 hown hgrow hiff hdr
  gi_wp2
  go_ret
  refine ⟨v',cs,rfl,⟨hgrow.os,hgrow.tape,hgrow.output,by have:=hgrow.size;simp at this;omega,fun k hk=>(hgrow.block k (by simp;omega) (fun e=>by simp [Value.ownBlock] at e;omega)).trans (Below.heap_alloc _ _ k hk),Lk hdr⟩,by simpa using hown,HR.out⟩
end Go.Proofs.YtmechmjjcgdpdaaGreatDoor
set_option linter.unusedVariables false
set_option linter.unusedSimpArgs false
namespace Go.Proofs.YtmechmjjcgdpdaaGreatDoor
open Go.RowKit Go.Shelf
def Eo (ps:List (ByteArray×Value)):List Value:=ps.flatMap fun q=>[.string q.1,q.2]
theorem Hf:∀{ps:List (ByteArray×Value)} {i:Nat} {q:ByteArray×Value},ps[i]?=some q→(Eo ps)[2*i]?=some (.string q.1)∧(Eo ps)[2*i+1]?=some q.2
 |a::ps,0,q,h=>by cases h;exact ⟨rfl,rfl⟩
 |a::ps,i+1,q,h=>by
  have:=Hf (ps:=ps) (i:=i) h
  rw [show 2*(i+1)=2*i+1+1 by omega]
  exact this
theorem Lc:∀(ps:List (ByteArray×Value)) (i:Nat) (p:ByteArray) (v v':Value),ps[i]?=some (p,v)→(Eo ps).set (2*i+1) v'=Eo (ps.set i (p,v'))
 |a::ps,0,p,v,v',h=>by cases h;rfl
 |a::ps,i+1,p,v,v',h=>by
  rw [show 2*(i+1)+1=(2*i+1)+1+1 by omega]
  have:=Lc ps i p v v' h
  show (Value.string a.1::a.2::Eo ps).set ((2*i+1)+1+1) v'=Value.string a.1::a.2::Eo (ps.set i (p,v'))
  rw [List.set_cons_succ,List.set_cons_succ,this]
def Ln (s:List ByteArray):List Value:=s.map Value.string
def F6 (w:World) (base:Nat) (v:Value) (s:List ByteArray):Prop:=w.ownsRow base 9 1 v s.length (Ln s)
structure Cps (w0 w:World) (base gb j:Nat) (l:List Ab) (ps:List (ByteArray×Value)):Prop where
 len:ps.length=l.length
 V1:∀(i:Nat) (x:Ab) q,l[i]?=some x→ps[i]?=some q→q.1=x.Position
 new:∀(i:Nat) (x:Ab) q,l[i]?=some x→ps[i]?=some q→i<j→F6 w base q.2 x.Ak
 old:∀(i:Nat) (x:Ab) q,l[i]?=some x→ps[i]?=some q→j≤i→A9 (D8 (fun k=>w0.heap.size≤k) w0) (Ai Aw x.Ak) q.2
 sep:∀(i k:Nat) p q b,i<j→k<j→ps[i]?=some p→ps[k]?=some q→p.2.ownBlock=some b→q.2.ownBlock=some b→i=k
 out:gb<base
theorem Yc {c:Cx}:∀{s:List ByteArray} {cs:List Value},Be c (Az Aw s) cs→cs=Ln s
 |[],_,h=>by cases h;rfl
 |a::s,_,h=>by
  rw [Ch] at h
  cases h with
  |cons h1 t=>
   cases h1
   rw [Yc t];rfl
theorem Ke {w:World} {base:Nat} {e:TypeId} {sz n:Nat} {v:Value} {xs:List Value} (h:w.ownsRow base e sz v n xs) (a:Addr) (u:Value) (hb:v.ownBlock≠some a.block):(w.setCell a u).ownsRow base e sz v n xs:=by
 refine ⟨h.1,?_⟩
 rcases h.2 with ⟨q1,q2⟩|⟨g,cap,cur,rfl,q2,q3,q4⟩
 ·exact .inl ⟨q1,q2⟩
 ·refine .inr ⟨g,cap,cur,rfl,q2,?_,q4⟩
  rw [Below.heap_setCell _ _ _ _ (by intro e;exact hb (by rw [← e];rfl))]
  exact q3
theorem y3 {w0 W W':World} {b0 base gb j:Nat} {l:List Ab} {ps:List (ByteArray×Value)} {cap:Nat} {x:Ab} {q:ByteArray×Value} {v':Value} (h:Cps w0 W base gb j l ps) (hx:l[j]?=some x) (hq:ps[j]?=some q) (hk:Kept W W') (hbase:base≤W.heap.size)
  (hown:W.ownsRow b0 37 2 (.slice (some ⟨gb,0,none⟩) l.length cap) l.length (Eo ps)) (hv:F6 W' W.heap.size v' x.Ak):
  Cps w0 (W'.setCell ⟨gb,2*j+1,none⟩ v') base gb (j+1) l (ps.set j (q.1,v'))∧(W'.setCell ⟨gb,2*j+1,none⟩ v').ownsRow b0 37 2 (.slice (some ⟨gb,0,none⟩) l.length cap) l.length (Eo (ps.set j (q.1,v'))):=by
 have hjl:=(List.getElem?_eq_some_iff.1 hx).1
 have hjp:=(List.getElem?_eq_some_iff.1 hq).1
 have hvb:∀b,v'.ownBlock=some b→W.heap.size≤b:=fun b hb=>Zn hv b hb
 have hob:=h.out
 have at_ne:∀{i:Nat} {r:ByteArray×Value},i≠j→(ps.set j (q.1,v'))[i]?=some r→ps[i]?=some r:=fun hi hr=>by rwa [List.getElem?_set_ne (Ne.symm hi)] at hr
 have at_eq:∀{r:ByteArray×Value},(ps.set j (q.1,v'))[j]?=some r→r=(q.1,v'):=fun hr=>by
  rw [List.getElem?_set_self hjp] at hr;cases hr;rfl
 have gnew:∀i r,i<j→ps[i]?=some r→∀b,r.2.ownBlock=some b→base≤b∧b<W.heap.size:=fun i r hi hr b hb=>by
  have hil:i<l.length:=by omega
  exact (h.new i l[i] r (List.getElem?_eq_getElem hil) hr hi).lt b hb
 refine ⟨⟨by rw [List.length_set];exact h.len,fun i y r hy hr=> ?_,fun i y r hy hr hi=> ?_,fun i y r hy hr hi=> ?_,fun i k p r b hi hk' hp hr hb1 hb2=> ?_,hob⟩,?_⟩
 ·by_cases e:i=j
  ·subst e
   rw [at_eq hr]
   rw [hx] at hy;cases hy
   exact h.V1 i x q hx hq
  ·exact h.V1 i y r hy (at_ne e hr)
 ·by_cases e:i=j
  ·subst e
   rw [at_eq hr]
   rw [hx] at hy;cases hy
   refine Ke (iR hv hbase) _ _ fun q=> ?_
   have:=hvb gb q
   omega
  ·have hr':=at_ne e hr
   refine Ke (Kd (h.new i y r hy hr' (by omega)) hk) _ _ fun q=> ?_
   have:=(gnew i r (by omega) hr' gb q).1
   omega
 ·exact h.old i y r hy (at_ne (by omega) hr) (by omega)
 ·by_cases e:i=j<;>by_cases e':k=j
  ·omega
  ·subst e
   rw [at_eq hp] at hb1
   have:=hvb b hb1
   have:=(gnew k r (by omega) (at_ne e' hr) b hb2).2
   omega
  ·subst e'
   rw [at_eq hr] at hb2
   have:=hvb b hb2
   have:=(gnew i p (by omega) (at_ne e hp) b hb1).2
   omega
  ·exact h.sep i k p r b (by omega) (by omega) (at_ne e hp) (at_ne e' hr) hb1 hb2
 ·have:=(Kd hown hk).stored (2*j+1) v'
  rw [Lc ps j q.1 q.2 v' hq] at this
  exact this.1
theorem X2 {w0 W:World} {base gb:Nat} (hg:gb<base):∀{l:List Ab} {cs:List Value},Be (D8 (fun k=>w0.heap.size≤k) w0) (Az Ab.E l) cs→∃ps,cs=Eo ps∧Cps w0 W base gb 0 l ps
 |[],_,h=>by
  cases h
  exact ⟨[],rfl,rfl,(by simp),(by simp),(by simp),(fun _ _ _ _ _ h=>by omega),hg⟩
 |x::l,_,h=>by
  rw [Ch] at h
  cases h with
  |cons h1 t=>
  cases t with
  |cons h2 t=>
  obtain ⟨ps,rfl,hc⟩:=X2 (w0:=w0) (W:=W) hg t
  cases h1
  refine ⟨(x.Position,_)::ps,rfl,⟨by simp [hc.len],fun i y q hy hq=> ?_,fun i y q _ _ h=>by omega,fun i y q hy hq _=> ?_,fun _ _ _ _ _ h=>by omega,hg⟩⟩
  ·cases i with
   |zero=>cases hy;cases hq;rfl
   |succ i=>exact hc.V1 i y q hy hq
  ·cases i with
   |zero=>cases hy;cases hq;exact h2
   |succ i=>exact hc.old i y q hy hq (Nat.zero_le _)
end Go.Proofs.YtmechmjjcgdpdaaGreatDoor
set_option linter.unusedVariables false
set_option linter.unusedSimpArgs false
namespace Go.Proofs.YtmechmjjcgdpdaaGreatDoor
open Go.RowKit Go.Shelf
set_option maxRecDepth 100000 in
set_option maxHeartbeats 4000000 in
theorem Pp {w:World} {l:List Ab} {v:Value} (hr:A9 (D8 (fun _=>False) w) (Ai Ab.E l) v) (hl:l≠[]) (hl2:l.length≤1000) (hs:∀x∈l,x.Ak.length≤1000):
  Calls Tryz.prog 48 #[v] w fun e w'=>∃gb cap ps base,e=.returned (.slice (some ⟨gb,0,none⟩) l.length cap)∧Kept w w'∧w.heap.size≤gb∧w'.ownsRow w.heap.size 37 2 (.slice (some ⟨gb,0,none⟩) l.length cap) l.length (Eo ps)∧Cps w w' base gb l.length l ps∧base≤w'.heap.size:=by
 have hlen:0<l.length:=List.length_pos_iff.2 hl
 have hcC:=callsIn_wide.1 (zS (Aa3 hr (Cq _ _)) (by omega) (by omega) 0)
 have HS:=Lib.hid hs
 obtain ⟨la,lc,rfl⟩:=Fo hr
 clear hr hs
 generalize hL:l.length=L at*
 go_enter Tryz.func48,Tryz.ntmps48
 go_wp2_with fail
 refine hcC.mono ?_
 rintro e w1 ⟨v1,cs,rfl,hk1,hown1,hrel1⟩
 clear hcC
 obtain ⟨gb,cap,rfl,hg1,hg2⟩:∃gb cap,v1=.slice (some ⟨gb,0,none⟩) L cap∧w.heap.size≤gb∧gb<w1.heap.size:=by
  rcases hown1.2 with ⟨q1,q2⟩|⟨g,cap,cur,q1,q2,q3,q4⟩
  ·omega
  ·exact ⟨g,cap,q1,q2,Ck q3⟩
 obtain ⟨ps0,rfl,hc0⟩:=X2 (w0:=w) (W:=w1) (base:=w1.heap.size) hg2 hrel1
 have HO:=Lib.hid hown1
 have HC:=Lib.hid hc0
 clear hown1 hc0 hrel1
 go_wp2_with fail
 go_loopw [4,9] (fun u i wr=>∃(j:Nat) (ps:List (ByteArray×Value)),j≤L∧i=.int .i64 j∧Kept w wr∧w1.heap.size≤wr.heap.size∧Hid (wr.ownsRow w.heap.size 37 2 (.slice (some ⟨gb,0,none⟩) L cap) L (Eo ps))∧Hid (Cps w wr w1.heap.size gb j l ps)) (fun _ i=>fun _=>L-(intOf i).toNat)
 case atStart=>exact ⟨0,ps0,Nat.zero_le _,rfl,hk1,Nat.le_refl _,HO,HC⟩
 case round=>
  obtain ⟨j,ps,hj,rfl,hkr,hsz,ho,hc⟩:=hrel
  by_cases hlt:j<L
  ·have hx:l[j]?=some l[j]:=List.getElem?_eq_getElem (by omega)
   generalize l[j]=x at hx
   obtain ⟨q,hq⟩:∃q,ps[j]?=some q:=⟨_,List.getElem?_eq_getElem (by rw [hc.out.len];omega)⟩
   have hxs:=HS.out x (List.mem_of_getElem? hx)
   have hold:=hc.out.old j x q hx hq (Nat.le_refl _)
   obtain ⟨qp,qv⟩:=q
   obtain ⟨ra,rc,rfl⟩:=Fo hold
   have hcT:=callsIn_wide.1 (zP ((hkr.gH _).rel hold (Cq _ _)) (by omega) (by omega) 0)
   have hcell:wr.cell? ⟨gb,j*2+1,none⟩=some (.slice ra x.Ak.length rc):=by
    rw [Nat.mul_comm,ho.out.cellAt (2*j+1) (by omega)]
    exact (Hf hq).2
   have hfr:wr.frozen? ⟨gb,j*2+1,none⟩=false:=by rw [Nat.mul_comm];exact ho.out.frozenAt (2*j+1)
   have hgr:gb<wr.heap.size:=by have:=hc.out.out;omega
   have d1:(j:Int)<(L:Int):=by omega
   generalize hSl:x.Ak.length=S at*
   have HH:=Lib.hid (And.intro hx (And.intro hq hold))
   clear hx hq hold
   go_wp2_with fail
   refine hcT.mono ?_
   rintro e w2 ⟨v2,scs,rfl,hk2,hown2,hrel2⟩
   clear hcT
   obtain ⟨va,vc,rfl⟩:=Dj hown2
   have hcell2:w2.cell? ⟨gb,j*2+1,none⟩=some (.slice ra S rc):=(hk2.cell hgr).trans hcell
   have hfr2:w2.frozen? ⟨gb,j*2+1,none⟩=false:=by
    rw [← hfr]
    simp only [World.frozen?,hk2.Bd gb hgr]
   obtain ⟨hx,hq,hold⟩:=HH.out
   obtain rfl:=Yc hrel2
   have hfin:=y3 hc.out hx hq hk2 hsz (by rw [hL];exact ho.out) (v':=.slice va S vc) (by unfold F6;rw [hSl];exact hown2)
   rw [hL,Nat.mul_comm] at hfin
   have FIN:=Lib.hid hfin
   have hkf:Kept w (w2.setCell ⟨gb,j*2+1,none⟩ (.slice va S vc)):=(hkr.trans hk2).set _ hg1 _
   have hsz2:=hk2.size
   clear hfin hown2 hrel2 hx hq hold
   go_wp2_with fail
   refine ⟨⟨j+1,_,hlt,by rw [show (j:Int)+1=((j+1:Nat):Int) by omega],hkf,by simp;omega,FIN.out.2,FIN.out.1⟩,by simp [intOf];omega⟩
  ·obtain rfl:j=L:=by omega
   have hlt':¬(j:Int)<(j:Int):=by omega
   clear HS HO HC
   go_wp2_with fail
   refine bodyPost_ret (results_tmp rfl _ _ _) rfl ?_
   exact ⟨gb,cap,rfl,hkr,hg1,ps,ho.out,_,hc.out,hsz⟩
end Go.Proofs.YtmechmjjcgdpdaaGreatDoor
set_option linter.unusedVariables false
set_option linter.unusedSimpArgs false
namespace Go.Proofs.YtmechmjjcgdpdaaGreatDoor
open Go.RowKit Go.Shelf Go.Sort
theorem Uj (c:Cx):∀s:List ByteArray,Be c (Az Aw s) (Ln s)
 |[]=> .nil
 |a::s=>by rw [Ch];exact .cons (.sc _ rfl) (Uj c s)
theorem y4 {P:Program} {f:FuncId} (hS:iL P f) {w:World} {base:Nat} {v:Value} {s:List ByteArray} (h:F6 w base v s) (hne:s≠[]) (hn:s.length<4611686018427387904):
  Calls P f #[v] w fun e w'=>e=.returned (.tuple #[])∧F6 w' base v (Dr s)∧Oo (fun k=>v.ownBlock=some k) w w':=by
 have hE:=b5
 have hlen:=Kg s
 rcases h.2 with ⟨q1,q2⟩|⟨g,cap,cur,rfl,q2,q3,q4,q5,q6,q7⟩
 ·exact absurd (List.eq_nil_of_length_eq_zero q2) hne
 have hlt:=Ck q3
 have hl1:(Ln s).length=s.length:=by simp [Ln]
 have hsp:cur.toList=Ln s++cur.toList.drop (s.length*1):=by rw [← q7,List.take_append_drop]
 have hrow:HoldsK (C2 Aw) Aw.size w g 0 s.toArray:=Kq hE q3 ⟨Ln s,hsp,D8 (fun _=>False) w,Uj _ s⟩
 have hcall:=hS g 0 cap (s.map C8) w (Xl hrow) hlt (by simpa using hn)
 rw [List.length_map] at hcall
 refine hcall.mono ?_
 rintro e w' ⟨rfl,n,os,rfl⟩
 rw [U9]
 have hsl:Dr s=(((s.map C8).mergeSort fun x y=>decide (x≤y)).map Gp):=rfl
 rw [← hsl]
 have hW:grow (putRowK (C2 Aw) Aw.size (Sort.ahead w n) g 0 (Dr s).toArray) os=sortWorldK (C2 Aw) Aw.size w g 0 n (Dr s).toArray os:=rfl
 rw [hW]
 generalize hd:(Dr s).toArray=d at*
 have hsd:Dr s=d.toList:=by rw [← hd]
 have hbut:=Mc (C2 Aw) Aw.size w g 0 n d os
 have hsz:d.size=s.length:=by rw [← hd];simpa using hlen
 obtain ⟨arr',b1,b2⟩:=hbut.Bd cur 9 q3
 have hold2:=holdsK_sortWorldK_c (C2 Aw) Aw.size w g 0 s.toArray d n os hrow hlt (by rw [hsz];simp)
 generalize sortWorldK (C2 Aw) Aw.size w g 0 n d os=W at*
 have hfl:(flatK (C2 Aw) Aw.size d).size=d.size:=by rw [size_flatK];show d.size*1=_;omega
 have hflt:(flatK (C2 Aw) Aw.size d).toList=Ln (Dr s):=by
  refine List.ext_getElem? fun t=> ?_
  by_cases ht:t<d.size
  ·rw [Array.getElem?_toList,Array.getElem?_eq_getElem (by omega)]
   have:=Ph d t ht
   rw [getElem!_pos _ t (by omega),getElem!_pos _ t ht] at this
   rw [this,hsd]
   simp [Ln,ht]
  ·rw [Array.getElem?_toList,Array.getElem?_eq_none (by omega),hsd,List.getElem?_eq_none (by simp [Ln];omega)]
 have htk:arr'.toList.take (s.length*1)=Ln (Dr s):=by
  rw [← hflt]
  refine List.ext_getElem? fun t=> ?_
  rw [List.getElem?_take]
  split
  ·rename_i ht
   have:=(hold2 t (by rw [hfl];omega)).1
   unfold World.cell? at this
   simp only [b1,Option.isSome_none,Bool.false_eq_true,if_false,Nat.zero_add,id] at this
   rw [Array.getElem?_toList,this,Array.getElem?_toList]
   have hs2:t<(flatK (C2 Aw) Aw.size d).size:=by omega
   rw [Array.getElem?_eq_getElem hs2,getElem!_pos _ t hs2]
  ·rename_i ht
   rw [Array.getElem?_toList,Array.getElem?_eq_none (by omega)]
 refine ⟨rfl,⟨by simp [Ln],.inr ⟨g,cap,arr',by rw [hlen],q2,b1,by omega,q5,by rw [b2];exact q6,by rw [hlen];exact htk⟩⟩,⟨hbut.os,hbut.tape,hbut.output,hbut.size,fun b hb hno=>hbut.xF b hb (fun e=>hno (by rw [e];rfl)),Lk hbut.drawn⟩⟩
end Go.Proofs.YtmechmjjcgdpdaaGreatDoor
set_option linter.unusedVariables false
set_option linter.unusedSimpArgs false
namespace Go.Proofs.YtmechmjjcgdpdaaGreatDoor
open Go.RowKit
theorem Aie {c:Cx} {id esz n k:Nat} {ex:Bool} {v:Value} (h:A9 c (.sl id 0 esz n k ex) v):∃cap,v=.slice (some ⟨c.f id,0,none⟩) n cap∧n≤cap∧cap≤maxLen:=by
 cases h with
 |sl ha hb hs hn hc he hm=>exact ⟨_,rfl,by omega,hm⟩
theorem tH {P:Program} {gl:Nat→Option (List AV)} {α:Type} {E:En α} {f:FuncId} {ty by_:Nat} {L Y:List (Raw E)} {i j:Int}
  (run:∀{look:Nat→Option Bk},look 0=B9 (Tf E) ty L→Gw P gl look 1 f [B3 (Tf E) 0 L,Aa i,Aa j] (bH (Tf E) 1 Y) [(1,some ⟨Az (Tf E) Y,ty⟩),(0,none)])
  (hne:L≠[]) (hsc:∀u∈Wb L,Lm u=true) {w:World} {base:Nat} {v:Value} (hown:w.ownsRow base ty E.size v L.length (Wb L)) (hG:B2 gl (D8 (fun k=>v.ownBlock=some k) w)):
  Calls P f #[v,.int .i64 i,.int .i64 j] w fun e w'=>∃b cap arr rest,e=.returned (.slice (some ⟨b,0,none⟩) Y.length cap)∧w'.heap[b]?=some (.cells arr ty)∧arr.toList=Wb Y++rest∧Y.length≤cap∧cap≤maxLen∧(v.ownBlock=some b∨w.heap.size≤b)∧Oo (fun k=>v.ownBlock=some k) w w':=by
 rcases hown.2 with ⟨q1,q2⟩|⟨g,cap,cur,rfl,q2,q3,q4,q5,q6,q7⟩
 ·exact absurd (List.eq_nil_of_length_eq_zero q2) hne
 have hlt:=Ck q3
 obtain ⟨c,hc⟩:∃c:Cx,c=⟨w,fun _=>g,fun j=>j=0,fun j=>if j=0 then some ⟨Az (Tf E) L,ty⟩ else none,fun _=>False⟩:=⟨_,rfl⟩
 have cw:c.w=w:=by rw [hc]
 have cf:∀j,c.f j=g:=fun j=>by rw [hc]
 have cal:∀j,c.al j↔j=0:=fun j=>by rw [hc]
 have cM:∀j,c.M j=if j=0 then some ⟨Az (Tf E) L,ty⟩ else none:=fun j=>by rw [hc]
 have cno:∀j,¬c.no j:=fun j=>by rw [hc];exact fun h=>h
 have cown:∀b,c.own b↔b=g:=fun b=>by
  constructor
  ·rintro ⟨k,Bd,h1,h2⟩;rw [cf] at h2;exact h2.symm
  ·rintro rfl;exact ⟨0,_,by rw [cM,if_pos rfl],cf 0⟩
 have hM0:∀k Bd,c.M k=some Bd→k=0∧Bd=⟨Az (Tf E) L,ty⟩:=fun k Bd h=>by
  rw [cM] at h
  by_cases e:k=0
  ·rw [if_pos e] at h;exact ⟨e,(Option.some.inj h).symm⟩
  ·rw [if_neg e] at h;cases h
 have hraw:Be c (Az (Tf E) L) (Wb L):=by
  rw [Vl]
  have:∀us:List Value,(∀u∈us,Lm u=true)→Be c (us.map AV.sc) us:=by
   intro us
   induction us with
   |nil=>intro _;exact .nil
   |cons u us ih=>intro h;exact .cons (.sc u (h u (by simp))) (ih (fun x hx=>h x (by simp [hx])))
  exact this _ hsc
 have hxs:=hown.1
 have g0:Good g c:=by
  refine ⟨by rw [cw];omega,fun k Bd h=> ?_,fun k Bd h=> ?_,fun b h=>absurd h (cno b),fun k k' Bd blk' h h' _=> ?_⟩
  ·rw [cf];exact ⟨Nat.le_refl _,(cal k).2 (hM0 k Bd h).1⟩
  ·obtain ⟨rfl,rfl⟩:=hM0 k Bd h
   refine ⟨cur,Wb L,cur.toList.drop (L.length*E.size),by rw [cf,cw];exact q3,by rw [← q7,List.take_append_drop],hraw⟩
  ·rw [(hM0 k Bd h).1,(hM0 k' blk' h').1]
 have hv:A9 c (B3 (Tf E) 0 L) (.slice (some ⟨g,0,none⟩) L.length cap):=by
  rw [Ev hne]
  have:=A9.sl (c:=c) (id:=0) (off:=0) (esz:=E.size) (n:=L.length) (cap:=L.length) (cap':=cap) (ex:=false) (arr:=cur) (T:=ty) ((cal 0).2 rfl) (by rw [cf,cw];exact q3) (by rw [q6];omega) (Nat.le_refl _) q4 (fun h=>by cases h) q5
  rw [cf] at this
  exact this
 have hcall:=(run (look:=fun j=>if j=0 then B9 (Tf E) ty L else none) (by simp)).2 g c [.slice (some ⟨g,0,none⟩) L.length cap,.int .i64 i,.int .i64 j] g0 (B2.B1 (c:=D8 (fun k=>(Value.slice (some ⟨g,0,none⟩) L.length cap).ownBlock=some k) w) (c0:=c) cw (fun b ⟨q1,q2,q3⟩=>⟨by rw [cw];exact q1,fun ho=>q3 (by rw [(cown b).1 ho];rfl),cno b⟩) hG) (fun h=>by have:=(cal 1).1 h;omega) (fun k b h=>by
  by_cases e:k=0
  ·simp only [if_pos e] at h
   rw [C7 hne] at h
   rw [cM,if_pos e];exact h
  ·simp only [if_neg e] at h;cases h) (.cons hv (.cons (.sc _ rfl) (.cons (.sc _ rfl) .nil)))
 rw [cw] at hcall
 refine hcall.mono ?_
 rintro e w' ⟨v',c',rfl,rfl,r1,st,g2,kM,-,-⟩
 have hM1:c'.M 1=some ⟨Az (Tf E) Y,ty⟩:=by
  rw [kM]
  show (if 1=0 then none else if 1=1 then some (⟨Az (Tf E) Y,ty⟩:Bk) else c.M 1)=some (⟨Az (Tf E) Y,ty⟩:Bk)
  rfl
 obtain ⟨arr,vs,rest,k1,k2,k3⟩:=g2.Bd 1 _ hM1
 have k3:Be c' (Az (Tf E) Y) vs:=k3
 rw [Vl] at k3
 have hvs:=Z7 k3
 subst hvs
 obtain ⟨cap',hv',hc1,hc2⟩:=Aie r1
 refine ⟨c'.f 1,cap',arr,rest,by rw [hv'],k1,k2,hc1,hc2,?_,?_⟩
 ·rcases Nat.lt_or_ge (c'.f 1) w.heap.size with q|q
  ·left
   have:=(cown _).1 (st.own (c'.f 1) (by rw [cw];exact q) ⟨1,_,hM1,rfl⟩)
   rw [this];rfl
  ·exact .inr q
 ·have s1:=st.os;have s2:=st.tape;have s3:=st.output;have s4:=st.size;have s6:=st.drawn
  rw [cw] at s1 s2 s3 s4 s6
  refine ⟨s1,s2,s3,s4,fun k hk hb=> ?_,s6⟩
  have:=st.Bd k (by rw [cw];exact hk) (fun h=>hb (by rw [(cown k).1 h];rfl))
  rwa [cw] at this
end Go.Proofs.YtmechmjjcgdpdaaGreatDoor
set_option linter.unusedVariables false
set_option linter.unusedSimpArgs false
namespace Go.Proofs.YtmechmjjcgdpdaaGreatDoor
open Go.RowKit Go.Shelf
theorem Pt {P:Program} (w:World) (base:Nat) (t ty e:TypeId) (i:TypeInfo) (z:Value) (size bytes:Nat) (ht:P.underlying t=some (.slice e)) (hi:P.info? e=some i) (hz:i.zero=some z)
  (hsize:i.size=size) (hby:i.bytes=bytes) (hzs:z.cells.size=size) (hsz:0<size)
  (v:Value) (n:Nat) (xs:List Value) (hown:w.ownsRow base e size v n xs)
  (a:Addr) (m c:Nat) (news:List Value) (hl:news.length=m*size) (hnews:∀j u,news[j]?=some u→w.cell? (a.add j)=some u) (h1:∀u∈news,u.oneCell'=true)
  (h63:n+m≤maxLen) (hbytes:(n+m)*bytes≤140737488355328) (hbase:base≤w.heap.size):
  ∃v' w',(Builtin.append_ #[t,t] ty #[v,.slice (some a) m c]).run P w=.ok v' w'∧w'.ownsRow base e size v' (n+m) (xs++news)∧w.grownBy w' v.ownBlock∧∀b,v'.ownBlock=some b→v.ownBlock=some b∨w.heap.size≤b:=by
 obtain ⟨v',w',hr,r1,r2,-⟩:=run_append_own (P:=P) w base t ty e i z size bytes ht hi hz hsize hby hzs hsz v n xs hown a m c news hl hnews h1 h63 hbytes hbase
 refine ⟨v',w',hr,r1,r2,fun b hb=> ?_⟩
 have hxl:=hown.1
 subst hsize
 subst hby
 rcases hown.2 with ⟨rfl,rfl⟩|⟨g,cap,cur,rfl,hbg,hg,hnc,hcm,hcs,htake⟩
 ·have hx:xs=[]:=List.eq_nil_of_length_eq_zero (by simpa using hxl)
  subst hx
  obtain ⟨v2,w2,hr2,q1,-,-⟩:=run_append_own (P:=P) w w.heap.size t ty e i z i.size i.bytes ht hi hz rfl rfl hzs hsz _ 0 [] (World.ownsRow_nil w w.heap.size e i.size) a m c news hl hnews h1 h63 hbytes (Nat.le_refl _)
  rw [hr] at hr2
  cases hr2
  exact .inr (q1.lt b hb).1
 ·by_cases hroom:n+m≤cap
  ·have hfit:n*i.size+news.length≤cur.size:=by rw [hl,hcs,← Nat.add_mul];exact Nat.mul_le_mul_right _ hroom
   have hr2:=run_append_room (P:=P) w t ty e i ht hi g n cap cur hg a m c news hl hnews h1 hroom hfit
   rw [hr] at hr2
   cases hr2
   exact .inl hb
  ·have hsmall:n+m≤9223372036854775807:=by simp only [maxLen] at h63;omega
   have holds:∀j u,xs[j]?=some u→w.cell? ((⟨g,0,none⟩:Addr).add j)=some u:=hown.cells (g:=g) rfl
   have hr2:=run_append_grow (P:=P) w t ty e i z ht hi hz ⟨g,0,none⟩ n cap xs hxl holds a m c news hl hnews (by omega) (by omega) (growslice_fits (by omega) hbytes)
   rw [hr] at hr2
   cases hr2
   refine .inr ?_
   cases hb
   exact Nat.le_refl _
theorem V9 {P:Program} {ops:Array Oper} {o:Oper} {a:Act} {w:World} {K:Act→World→Prop} {Q:Exit→Act→World→Prop} {E:Prop}
  (hg:o.guard=none) (s x:Operand) (t:TypeId) (hop:o.op=Op.call {callee:=Callee.builtin Builtin.append,args:=#[s,x],argTypes:=#[t,t]})
  (base:Nat) (e:TypeId) (i:TypeInfo) (z:Value) (size bytes:Nat) (h1:P.underlying t=some (.slice e)) (h2:P.info? e=some i) (h3:i.zero=some z) (h4:i.size=size) (h5:i.bytes=bytes) (h6:z.cells.size=size) (h7:0<size)
  (v:Value) (k:Nat) (xs:List Value) (hs:a.eval s=v) (hown:w.ownsRow base e size v k xs) (ad:Addr) (m c:Nat) (news:List Value) (hx:a.eval x=.slice (some ad) m c) (hn:news.length=m*size)
  (hc:∀j u,news[j]?=some u→w.cell? (ad.add j)=some u) (h1c:∀u∈news,u.oneCell'=true) (b1:k+m≤maxLen) (b2:(k+m)*bytes≤140737488355328) (b3:base≤w.heap.size)
  (hK:∀v' w',w'.ownsRow base e size v' (k+m) (xs++news)→w.grownBy w' v.ownBlock→(∀b,v'.ownBlock=some b→v.ownBlock=some b∨w.heap.size≤b)→w.drawn≤w'.drawn→K (a.put o.dst v') w'):
  if Region.wanted o (yielded ops a.tmps)=true then Oper.wp P o a w K Q else E:=by
 have hw:Region.wanted o (yielded ops a.tmps)=true:=by simp [Region.wanted,hg]
 rw [if_pos hw]
 obtain ⟨v',w',hrun,r1,r2,r3⟩:=Pt (P:=P) w base t o.type e i z size bytes h1 h2 h3 h4 h5 h6 h7 v k xs hown ad m c news hn hc h1c b1 b2 b3
 have hd:=Dc P _ _ _ _ hrun
 unfold Oper.wp
 simp [execOp,hop,resolve,invoke,builtin,hs,hx,hrun,Result.andThen]
 exact hK v' w' r1 r2 r3 hd
theorem Gi {W W':World} {base:Nat} {v:Value} {s:List ByteArray} (h:F6 W base v s) (hk:∀b,v.ownBlock=some b→W'.heap[b]?=W.heap[b]?):F6 W' base v s:=by
 refine ⟨h.1,?_⟩
 rcases h.2 with q|⟨g,cap,cur,rfl,q2,q3,q4⟩
 ·exact .inl q
 ·exact .inr ⟨g,cap,cur,rfl,q2,(hk g rfl).trans q3,q4⟩
theorem Mi {W W':World} {base sz n:Nat} {T:TypeId} {v:Value} {xs:List Value} (h:W.ownsRow base T sz v n xs) (hk:∀b,v.ownBlock=some b→W'.heap[b]?=W.heap[b]?):W'.ownsRow base T sz v n xs:=by
 refine ⟨h.1,?_⟩
 rcases h.2 with q|⟨g,cap,cur,rfl,q2,q3,q4⟩
 ·exact .inl q
 ·exact .inr ⟨g,cap,cur,rfl,q2,(hk g rfl).trans q3,q4⟩
structure aA (W:World) (base gb:Nat) (l:List Ab) (ps:List (ByteArray×Value)):Prop where
 len:ps.length=l.length
 row:∀(i:Nat) (x:Ab) q,l[i]?=some x→ps[i]?=some q→q.1=x.Position∧F6 W base q.2 x.Ak
 sep:∀(i k:Nat) p q b,ps[i]?=some p→ps[k]?=some q→p.2.ownBlock=some b→q.2.ownBlock=some b→i=k
 out:gb<base
theorem F9 {α:Type} {l:List α} {i:Nat} {x:α} (h:l[i]?=some x):i<l.length:=(List.getElem?_eq_some_iff.1 h).1
theorem Cps.cpx {w0 W:World} {base gb n:Nat} {l:List Ab} {ps:List (ByteArray×Value)} (h:Cps w0 W base gb n l ps) (hn:n=l.length):aA W base gb l ps:=by
 subst hn
 refine ⟨h.len,fun i x q hx hq=>⟨h.V1 i x q hx hq,h.new i x q hx hq (F9 hx)⟩,fun i k p q b hp hq=>h.sep i k p q b ?_ ?_ hp hq,h.out⟩
 ·have:=F9 hp;have:=h.len;omega
 ·have:=F9 hq;have:=h.len;omega
theorem aA.Bd {W:World} {base gb i:Nat} {l:List Ab} {ps:List (ByteArray×Value)} (h:aA W base gb l ps) {q:ByteArray×Value} (hq:ps[i]?=some q):∀b,q.2.ownBlock=some b→base≤b∧b<W.heap.size:=by
 have hi:i<l.length:=by have:=F9 hq;have:=h.len;omega
 exact (h.row i l[i] q (List.getElem?_eq_getElem hi) hq).2.lt
theorem aA.Hp {W W':World} {base gb:Nat} {l:List Ab} {ps:List (ByteArray×Value)} (h:aA W base gb l ps) (hk:∀(i:Nat) (q:ByteArray×Value) b,ps[i]?=some q→q.2.ownBlock=some b→W'.heap[b]?=W.heap[b]?):aA W' base gb l ps:=
 ⟨h.len,fun i x q hx hq=>⟨(h.row i x q hx hq).1,Gi (h.row i x q hx hq).2 fun b hb=>hk i q b hq hb⟩,h.sep,h.out⟩
theorem aA.put {W W':World} {base gb I:Nat} {l:List Ab} {ps:List (ByteArray×Value)} (h:aA W base gb l ps) {x:Ab} {q:ByteArray×Value} {v:Value} {s:List ByteArray} (hx:l[I]?=some x) (hq:ps[I]?=some q)
  (hoth:∀k r b,k≠I→ps[k]?=some r→r.2.ownBlock=some b→W'.heap[b]?=W.heap[b]?∧v.ownBlock≠some b) (hv:F6 W' base v s):aA W' base gb (l.set I ⟨x.Position,s⟩) (ps.set I (q.1,v)):=by
 have hjl:=F9 hx
 have hjp:=F9 hq
 have at_ne:∀{i:Nat} {r:ByteArray×Value},i≠I→(ps.set I (q.1,v))[i]?=some r→ps[i]?=some r:=fun hi hr=>by rwa [List.getElem?_set_ne (Ne.symm hi)] at hr
 have at_eq:∀{r:ByteArray×Value},(ps.set I (q.1,v))[I]?=some r→r=(q.1,v):=fun hr=>by
  rw [List.getElem?_set_self hjp] at hr;cases hr;rfl
 refine ⟨by rw [List.length_set,List.length_set];exact h.len,fun i y r hy hr=> ?_,fun i k p r b hp hr hb1 hb2=> ?_,h.out⟩
 ·by_cases e:i=I
  ·subst e
   rw [at_eq hr]
   rw [List.getElem?_set_self hjl] at hy
   cases hy
   exact ⟨(h.row i x q hx hq).1,hv⟩
  ·rw [List.getElem?_set_ne (Ne.symm e)] at hy
   have hr':=at_ne e hr
   exact ⟨(h.row i y r hy hr').1,Gi (h.row i y r hy hr').2 fun b hb=>(hoth i r b e hr' hb).1⟩
 ·by_cases e:i=I<;>by_cases e':k=I
  ·omega
  ·subst e
   rw [at_eq hp] at hb1
   exact absurd hb1 (hoth k r b e' (at_ne e' hr) hb2).2
  ·subst e'
   rw [at_eq hr] at hb2
   exact absurd hb2 (hoth i p b e (at_ne e hp) hb1).2
  ·exact h.sep i k p r b (at_ne e hp) (at_ne e' hr) hb1 hb2
def Ea (zs:List (Ab×Value)):List Value:=zs.flatMap fun z=>[.string z.1.Position,z.2]
theorem Aa6 {R:Ab→Value→Prop}:∀{l:List Ab} {ps:List (ByteArray×Value)},ps.length=l.length→(∀(i:Nat) (x:Ab) q,l[i]?=some x→ps[i]?=some q→q.1=x.Position∧R x q.2)→∃zs:List (Ab×Value),zs.map (·.1)=l∧Ea zs=Eo ps∧∀z∈zs,R z.1 z.2
 |[],[],_,_=>⟨[],rfl,rfl,by simp⟩
 |[],_::_,h,_=>by simp at h
 |_::_,[],h,_=>by simp at h
 |x::l,q::ps,h,hp=>by
  obtain ⟨zs,h1,h2,h3⟩:=Aa6 (R:=R) (l:=l) (ps:=ps) (by simpa using h) (fun i y r hy hr=>hp (i+1) y r hy hr)
  obtain ⟨k1,k2⟩:=hp 0 x q rfl rfl
  refine ⟨(x,q.2)::zs,by rw [List.map_cons,h1],?_,fun z hz=> ?_⟩
  ·unfold Ea Eo at*
   rw [List.flatMap_cons,List.flatMap_cons,h2,k1]
  ·rcases List.mem_cons.1 hz with rfl|hz
   ·exact k2
   ·exact h3 z hz
theorem aA.zip {W:World} {base gb:Nat} {l:List Ab} {ps:List (ByteArray×Value)} (h:aA W base gb l ps):∃zs:List (Ab×Value),zs.map (·.1)=l∧Ea zs=Eo ps∧∀z∈zs,F6 W base z.2 z.1.Ak:=
 Aa6 (R:=fun x v=>F6 W base v x.Ak) h.len h.row
theorem bJ {W:World} {base:Nat} {no:Nat→Prop} (hn:∀k,no k→k<base):∀{zs:List (Ab×Value)},(∀z∈zs,F6 W base z.2 z.1.Ak)→Be (D8 no W) (Az Ab.E (zs.map (·.1))) (Ea zs)
 |[],_=> .nil
 |z::zs,h=>by
  rw [List.map_cons,Ch]
  have:=bJ (W:=W) hn (zs:=zs) fun z hz=>h z (by simp [hz])
  exact .cons (.sc _ rfl) (.cons (bW (E:=Aw) (h z (by simp)) (Uj _ _) hn) this)
def qK (z:Ab×Value):Raw Ab.E:=⟨(z.1,[.string z.1.Position,z.2]),rfl⟩
theorem Yq:∀zs:List (Ab×Value),Wb (zs.map qK)=Ea zs
 |[]=>rfl
 |z::zs=>by
  have:=Yq zs
  unfold Wb Ea at*
  rw [List.map_cons,List.flatMap_cons,List.flatMap_cons,this]
  rfl
theorem Amh {w:World} {base:Nat} {v:Value} {zs:List (Ab×Value)} {K:Nat} (hK:K<zs.length) (hn:zs.length≤1000) (hown:w.ownsRow base 37 2 v zs.length (Ea zs)) (hsc:∀z∈zs,∃a n c,z.2=.slice a n c) (hG:B2 KK.gl (D8 (fun k=>v.ownBlock=some k) w)):
  Calls Tryz.prog 49 #[v,.int .i64 (K:Int),.int .i64 (K+1:Int)] w fun e w'=>∃b cap arr rest,e=.returned (.slice (some ⟨b,0,none⟩) (zs.eraseIdx K).length cap)∧w'.heap[b]?=some (.cells arr 37)∧arr.toList=Ea (zs.eraseIdx K)++rest∧(zs.eraseIdx K).length≤cap∧cap≤maxLen∧(v.ownBlock=some b∨w.heap.size≤b)∧Oo (fun k=>v.ownBlock=some k) w w':=by
 have hE:zs.eraseIdx K=zs.take K++zs.drop (K+1):=List.eraseIdx_eq_take_drop_succ zs K
 have hd:wJ 40 (zs.map qK) (K:Int) (K+1:Int)=some ((zs.eraseIdx K).map qK):=by
  unfold wJ
  rw [List.length_map,if_pos (by omega),hE]
  simp [List.map_take,List.map_drop]
 have hL:(zs.map qK)≠[]:=by
  intro q
  have:=List.map_eq_nil_iff.1 q
  subst this
  simp at hK
 have:=tH (P:=Tryz.prog) (gl:=KK.gl) (E:=Ab.E) (f:=49) (ty:=37) (by_:=40) (L:=zs.map qK) (Y:=(zs.eraseIdx K).map qK) (i:=(K:Int)) (j:=(K+1:Int))
  (fun hb=>Akr hb hd) hL (by
   intro u hu
   rw [Yq] at hu
   obtain ⟨z,hz,hu⟩:=List.mem_flatMap.1 hu
   obtain ⟨a,n,c,hz2⟩:=hsc z hz
   rcases List.mem_cons.1 hu with rfl|hu
   ·rfl
   ·rw [List.mem_singleton.1 hu,hz2];rfl) (w:=w) (base:=base) (v:=v) (by rw [Yq,List.length_map];exact hown) hG
 refine this.mono ?_
 rintro e w' ⟨b,cap,arr,rest,h1,h2,h3,h4,h5,h6,h7⟩
 rw [List.length_map] at h1 h4
 rw [Yq] at h3
 exact ⟨b,cap,arr,rest,h1,h2,h3,h4,h5,h6,h7⟩
theorem Am2 {W:World} {base b cap:Nat} {no:Nat→Prop} (hn:∀k,no k→k<base) {zs:List (Ab×Value)} (hz:∀z∈zs,F6 W base z.2 z.1.Ak) {arr:Array Value} {rest:List Value} (hb:W.heap[b]?=some (.cells arr 37)) (ha:arr.toList=Ea zs++rest) (hc:zs.length≤cap) (hm:cap≤maxLen) (hnb:¬no b):
  A9 (D8 no W) (Ai Ab.E (zs.map (·.1))) (.slice (some ⟨b,0,none⟩) zs.length cap):=by
 have hr:=bJ hn hz
 have:=A9.Dh (c:=D8 no W) (b:=b) (o:=0) (vs:=Ea zs) (n:=(zs.map (·.1)).length) (cap:=cap) (ex:=false) ⟨Ck hb,Gg _,hnb⟩ hr (fun k u hu=> ?_) (by rw [List.length_map];exact hc) (fun h=>by cases h) hm
 ·rw [List.length_map] at this
  unfold Ai
  rw [List.length_map]
  exact this
 ·have:arr.toList[k]?=some u:=by
   rw [ha,List.getElem?_append_left (F9 hu)];exact hu
  show W.cell? ⟨b,0+k,none⟩=some u
  rw [Nat.zero_add]
  simp only [World.cell?,hb]
  rw [Array.getElem?_toList] at this
  simpa using this
end Go.Proofs.YtmechmjjcgdpdaaGreatDoor
