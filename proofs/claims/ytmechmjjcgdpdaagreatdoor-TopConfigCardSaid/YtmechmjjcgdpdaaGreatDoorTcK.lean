/- Parts Sv1, Sv0, Kn, Bb. -/
import Derived.Test.YtmechmjjcgdpdaaGreatDoorPJ
import Derived.RangeFuncNested
import Derived.RangeFuncBound
import Derived.RangeFuncCalls
import Derived.RangeFuncLeaves
import Derived.Shelf.Abstract
import Derived.Shelf.RegionOpen
import Derived.WalkKit
import Derived.OwnWalkIn
import Derived.TacticsInMore
import Derived.LoopNIn
import Derived.LoopIn
import Derived.WalkSpells
import Derived.WalkLawsBesides
import Derived.RegionTactic
import Derived.ChangeAlike
import Derived.Lib.Hide
import Derived.Handy
import Derived.Deep.RegionWith
import Derived.Deep.RegionHeldLaw
import Derived.Deep.QuietTactic
import Derived.BigQuiet
import Derived.OneCell
import Derived.Lib.SliceRun
import Derived.LoopTactic
set_option linter.unusedVariables false
set_option linter.unusedSimpArgs false
namespace Go.Proofs.YtmechmjjcgdpdaaGreatDoor
open Go.RowKit Go.Shelf
structure Kx (n b:Nat) (w w':World):Prop where
 os:w'.os=w.os
 tape:w'.tape=w.tape
 output:w'.output=w.output
 size:w.heap.size≤w'.heap.size
 Bd:∀k,k<n→k≠b→w'.heap[k]?=w.heap[k]?
 drawn:dr w≤dr w'
theorem Kx.refl (n b:Nat) (w:World):Kx n b w w:=⟨rfl,rfl,rfl,Nat.le_refl _,fun _ _ _=>rfl,Nat.le_refl _⟩
theorem Kx.trans {n b:Nat} {x y z:World} (h:Kx n b x y) (k:Kx n b y z):Kx n b x z:=⟨k.os.trans h.os,k.tape.trans h.tape,k.output.trans h.output,Nat.le_trans h.size k.size,fun i hi hb=>(k.Bd i hi hb).trans (h.Bd i hi hb),Nat.le_trans h.drawn k.drawn⟩
theorem Kx.Aek {n b:Nat} {w w':World} (hn:n≤w.heap.size) (h:Kept w w'):Kx n b w w':=⟨h.os,h.tape,h.output,h.size,fun k hk _=>h.Bd k (by omega),h.drawn⟩
theorem Kx.mono {n m b:Nat} {w w':World} (hn:m≤n) (h:Kx n b w w'):Kx m b w w':=⟨h.os,h.tape,h.output,h.size,fun k hk hb=>h.Bd k (by omega) hb,h.drawn⟩
theorem Kx.cell {n b:Nat} {w w':World} (h:Kx n b w w') {p:Addr} (hp:p.block<n) (hb:p.block≠b):w'.cell? p=w.cell? p:=by simp [World.cell?,h.Bd _ hp hb]
theorem Kx.alloc {n b:Nat} {w w':World} (h:Kx n b w w') (hn:n≤w'.heap.size) (o:Obj):Kx n b w (w'.alloc o):=h.trans (Kx.Aek hn (Kept.alloc _ _))
theorem Kx.setCell {n b:Nat} {w w':World} (h:Kx n b w w') (a:Addr) (ha:a.block=b∨n≤a.block) (v:Value):Kx n b w (w'.setCell a v):=by
 refine h.trans ⟨rfl,rfl,rfl,by simp,fun k hk hb=> ?_,Nat.le_refl _⟩
 exact Below.heap_setCell _ _ _ _ (by omega)
structure Oh (c:Cx):Prop where
 M:∀id,c.M id=none
 no:∀b,c.no b→b<c.w.heap.size
theorem Oh.own {c:Cx} (h:Oh c) (b:Nat):¬c.own b:=fun ⟨id,Bd,h1,_⟩=>by rw [h.M id] at h1;cases h1
theorem Oh.Td {c:Cx} (h:Oh c):Good c.w.heap.size c:=
 ⟨Nat.le_refl _,fun id Bd h1=>(by rw [h.M id] at h1;cases h1),fun id Bd h1=>(by rw [h.M id] at h1;cases h1),h.no,fun id _ Bd _ h1=>(by rw [h.M id] at h1;cases h1)⟩
theorem Oh.at {c:Cx} (h:Oh c) {w:World} (hs:c.w.heap.size≤w.heap.size):Oh {c with w:=w}:=⟨h.M,fun b hb=>Nat.lt_of_lt_of_le (h.no b hb) hs⟩
mutual
theorem A9.Hp {c c':Cx} (hs:∀b,c.Bs b→c'.Bs b) (hc:∀b o vs,c.Bs b→E4 c.w b o vs→E4 c'.w b o vs) {x:AV} {v:Value}:A9 c x v→clean x=true→A9 c' x v
 |.El v,_=> .El v
 |.sc v h,_=> .sc v h
 |.agg h,q=> .agg (Be.Hp hs hc h (by simpa [clean] using q))
 |.Bn h,q=> .Bn (Be.Hp hs hc h (by simpa [clean] using q))
 |.Jk,_=> .Jk
 |.ptr h off,q=>by simp [clean] at q
 |.B6 hb h hce off,q=> .B6 (hs _ hb) (Be.Hp hs hc h (by simpa [clean] using q)) (hc _ _ _ hb hce) off
 |.Bp,_=> .Bp
 |.Dy a cap ex he hm hn,_=> .Dy a cap ex he hm hn
 |.Dh hb h hce hn he hm,q=> .Dh (hs _ hb) (Be.Hp hs hc h (by simpa [clean] using q)) (hc _ _ _ hb hce) hn he hm
 |.sl h hb hs' hn hc' he hm,q=>by simp [clean] at q
 |.fn f h,q=> .fn f (Be.Hp hs hc h (by simpa [clean] using q))
 |.N5,_=> .N5
 |.Pm u v,_=> .Pm u v
theorem Be.Hp {c c':Cx} (hs:∀b,c.Bs b→c'.Bs b) (hc:∀b o vs,c.Bs b→E4 c.w b o vs→E4 c'.w b o vs) {xs:List AV} {vs:List Value}:Be c xs vs→Ap xs=true→Be c' xs vs
 |.nil,_=> .nil
 |.cons h t,q=> .cons (A9.Hp hs hc h (by simp [Ap] at q;exact q.1)) (Be.Hp hs hc t (by simp [Ap] at q;exact q.2))
end
theorem Oh.Aml {c:Cx} (h:Oh c) {b:Nat} (hb:c.no b) {w:World} (hk:Kx c.w.heap.size b c.w w):(∀k,c.Bs k→({c with w:=w}:Cx).Bs k)∧∀k,c.Bs k→w.heap[k]?=c.w.heap[k]?:=
 ⟨fun k ⟨h1,h2,h3⟩=>⟨Nat.lt_of_lt_of_le h1 hk.size,(h.at hk.size).own k,h3⟩,fun k ⟨h1,h2,h3⟩=>hk.Bd k h1 (fun e=>h3 (e ▸ hb))⟩
theorem Oh.cat {c:Cx} (h:Oh c) {b:Nat} (hb:c.no b) {w:World} (hk:Kx c.w.heap.size b c.w w):∀k o vs,c.Bs k→E4 c.w k o vs→E4 w k o vs:=fun k o vs hs hc j v hv=>by
 have:=hc j v hv
 rw [← this]
 simp [World.cell?,(h.Aml hb hk).2 k hs]
theorem Oh.Anx {c:Cx} (h:Oh c) {b:Nat} (hb:c.no b) {w:World} (hk:Kx c.w.heap.size b c.w w) {xs:List AV} {vs:List Value} (hx:Ap xs=true) (r:Be c xs vs):Be {c with w:=w} xs vs:=r.Hp (h.Aml hb hk).1 (h.cat hb hk) hx
end Go.Proofs.YtmechmjjcgdpdaaGreatDoor
set_option linter.unusedVariables false
set_option linter.unusedSimpArgs false
namespace Go.Proofs.YtmechmjjcgdpdaaGreatDoor
open Go.RowKit Go.Shelf
theorem Te {p:Program} {w w':World} {at_ k:Addr} {u:TypeId} {v:Value} {b:Bool} {l:List Addr} (h:w.viewStore p at_ u k v b=.ok (w',l)):w'.drawn=w.drawn:=by
 unfold World.viewStore at h
 simp only [bind,Except.bind,pure,Except.pure] at h
 repeat' (first|(split at h)|(cases h;done))
 all_goals first|(cases h;rfl)|(simp only [Except.ok.injEq,Prod.mk.injEq] at h;obtain ⟨rfl,-⟩:=h;rfl)
theorem Sa {α:Type}:∀(a:Ask α) (w:World),w.drawn≤(w.ask a).2.drawn
 |.done _,w=>Nat.le_refl _
 |.ask what range k,w=>by
  unfold World.ask
  simp only
  split
  ·exact Sa _ w
  ·exact Nat.le_trans (Nat.le_succ _) (Sa (k ((Question.extern what range).cut (w.tape w.drawn (Question.extern what range)))) {w with drawn:=w.drawn+1})
theorem Dc {α:Type} (p:Program):∀(s:Sem α) (w w':World) (a:α),s.run p w=.ok a w'→w.drawn≤w'.drawn
 |.pure x,w,w',a,h=>by simp only [Sem.run,Result.ok.injEq] at h;rw [h.2];exact Nat.le_refl _
 |.load m x k,w,w',a,h=>by
  unfold Sem.run at h
  split at h
  ·exact Dc p _ w w' a h
  ·split at h
   ·exact Dc p _ w w' a h
   ·cases h
 |.store m x v k,w,w',a,h=>by
  have key:(match w.cell? x with
   |some _=>if w.frozen? x then Result.halt (.unsupported (.unsafePointer "a write to bytes that a string shares")) w else k.run p (w.setCell x v)
   |none=>match w.farStore p x v (m==Mode.atomic) with
    |.ok (w,_)=>k.run p w
    |.error h=> .halt h w)=.ok a w':=by
   cases v<;>simp only [Sem.run] at h<;>first|exact h|cases h
  clear h
  split at key
  ·split at key
   ·cases key
   ·exact Dc p k (w.setCell x v) w' a key
  ·split at key
   ·rename_i w1 l hs
    have e:w1.drawn=w.drawn:=by
     unfold World.farStore at hs
     split at hs
     ·split at hs
      ·rename_i r hr
       cases hs
       exact Te hr
      ·cases hs
     ·cases hs
    rw [← e]
    exact Dc p k w1 w' a key
   ·cases key
 |.new o k,w,w',a,h=>by unfold Sem.run at h;exact Dc p (k w.heap.size) {w with heap:=w.heap.push o} w' a h
 |.shape r k,w,w',a,h=>by unfold Sem.run at h;exact Dc p _ w w' a h
 |.freeze x n k,w,w',a,h=>by
  unfold Sem.run at h
  have:=Dc p k _ w' a h
  unfold World.freeze at this
  split at this<;>exact this
 |.frozen x k,w,w',a,h=>by unfold Sem.run at h;exact Dc p _ w w' a h
 |.getObj r k,w,w',a,h=>by
  unfold Sem.run at h
  split at h
  ·cases h
  ·exact Dc p _ w w' a h
  ·cases h
 |.setObj r o k,w,w',a,h=>by
  unfold Sem.run at h
  split at h
  ·cases h
  ·exact Dc p k {w with heap:=w.heap.setIfInBounds r o} w' a h
  ·cases h
 |.choose q k,w,w',a,h=>by
  unfold Sem.run at h
  split at h
  ·exact Dc p _ w w' a h
  ·exact Nat.le_trans (Nat.le_succ _) (Dc p _ _ w' a h)
 |.sys c k,w,w',a,h=>by
  unfold Sem.run at h
  refine Nat.le_trans ?_ (Dc p _ _ w' a h)
  unfold World.sys
  have:=Sa (Kernel.perform c w.os) w
  split
  ·exact Nat.le_refl _
  ·rename_i hq
   rw [hq] at this
   exact this
 |.program k,w,w',a,h=>by unfold Sem.run at h;exact Dc p _ w w' a h
 |.mark m k,w,w',a,h=>by unfold Sem.run at h;exact Dc p k w w' a h
 |.halt x,w,w',a,h=>by simp [Sem.run] at h
theorem dC {F:Fence} {n:Nat} {P:Program} (w:World) {ops:Array Oper} {rest:List Oper} {o:Oper} {a:Act} {Q:Exit→Act→World→Prop}
  (hg:o.guard=none) (s x:Operand) (t:TypeId) (hop:o.op=Op.call {callee:=Callee.builtin Builtin.append,args:=#[s,x],argTypes:=#[t,t]})
  (base:Nat) (e:TypeId) (i:TypeInfo) (z:Value) (size bytes:Nat) (h1:P.underlying t=some (.slice e)) (h2:P.info? e=some i) (h3:i.zero=some z) (h4:i.size=size) (h5:i.bytes=bytes) (h6:z.cells.size=size) (h7:0<size)
  (v:Value) (k:Nat) (xs:List Value) (hs:a.eval s=v) (hown:w.ownsRow base e size v k xs) (ad:Addr) (m c:Nat) (news:List Value) (hx:a.eval x=.slice (some ad) m c) (hn:news.length=m*size)
  (hc:∀j u,news[j]?=some u→w.cell? (ad.add j)=some u) (h1c:∀u∈news,u.oneCell'=true) (b1:k+m≤maxLen) (b2:(k+m)*bytes≤140737488355328) (b3:base≤w.heap.size)
  (hK:∀v' w',w'.ownsRow base e size v' (k+m) (xs++news)→w.grownBy w' v.ownBlock→(v'=.slice none 0 0↔v=.slice none 0 0∧m=0)→w.drawn≤w'.drawn→wpListIn F n P ops Q rest (a.put o.dst v') w'):
  wpListIn F n P ops Q (o::rest) a w:=by
 refine wpListIn_plain hg fun K hK'=> ?_
 obtain ⟨v',w',hrun,r1,r2,r3⟩:=run_append_own (P:=P) w base t o.type e i z size bytes h1 h2 h3 h4 h5 h6 h7 v k xs hown ad m c news hn hc h1c b1 b2 b3
 have hd:=Dc P _ _ _ _ hrun
 unfold Oper.wpIn
 refine ⟨?_,?_⟩
 ·simp [Oper.about,hop,resolve,Target.leads,Sem.run_pure]
 ·rw [Oper.semAt_plain F _ _ (by rw [hop];intro c hc';cases hc')]
  simp [execOp,hop,resolve,invoke,builtin,hs,hx,hrun,Result.andThen]
  exact hK' _ _ (hK v' w' r1 r2 r3 hd)
end Go.Proofs.YtmechmjjcgdpdaaGreatDoor
set_option linter.unusedVariables false
set_option linter.unusedSimpArgs false
namespace Go.Proofs.YtmechmjjcgdpdaaGreatDoor
open Go.RowKit Go.Shelf
def D8 (no:Nat→Prop) (w:World):Cx:=⟨w,fun _=>0,fun _=>False,fun _=>none,no⟩
structure Oo (no:Nat→Prop) (w w':World):Prop where
 os:w'.os=w.os
 tape:w'.tape=w.tape
 output:w'.output=w.output
 size:w.heap.size≤w'.heap.size
 Bd:∀k,k<w.heap.size→¬no k→w'.heap[k]?=w.heap[k]?
 drawn:dr w≤dr w'
theorem Oo.refl (no:Nat→Prop) (w:World):Oo no w w:=⟨rfl,rfl,rfl,Nat.le_refl _,fun _ _ _=>rfl,Nat.le_refl _⟩
theorem Oo.trans {no:Nat→Prop} {x y z:World} (h:Oo no x y) (k:Oo no y z):Oo no x z:=⟨k.os.trans h.os,k.tape.trans h.tape,k.output.trans h.output,Nat.le_trans h.size k.size,fun i hi hb=>(k.Bd i (Nat.lt_of_lt_of_le hi h.size) hb).trans (h.Bd i hi hb),Nat.le_trans h.drawn k.drawn⟩
theorem Kept.gH {w w':World} (h:Kept w w') (no:Nat→Prop):Oo no w w':=⟨h.os,h.tape,h.output,h.size,fun k hk _=>h.Bd k hk,h.drawn⟩
theorem Kept.trans {x y z:World} (h:Kept x y) (k:Kept y z):Kept x z:=⟨k.os.trans h.os,k.tape.trans h.tape,k.output.trans h.output,Nat.le_trans h.size k.size,fun i hi=>(k.Bd i (Nat.lt_of_lt_of_le hi h.size)).trans (h.Bd i hi),Nat.le_trans h.drawn k.drawn⟩
theorem Oo.setCell {no:Nat→Prop} {w w':World} (h:Oo no w w') (a:Addr) (ha:no a.block∨w.heap.size≤a.block) (v:Value):Oo no w (w'.setCell a v):=by
 refine ⟨h.os,h.tape,h.output,by have:=h.size;simpa using this,fun k hk hb=> ?_,h.drawn⟩
 rw [Below.heap_setCell _ _ _ _ (by rintro rfl;exact ha.elim hb (fun q=>by omega))]
 exact h.Bd k hk hb
theorem Oo.kept {no:Nat→Prop} {w w' w0:World} (h:Oo no w w') (hs:w0.heap.size≤w.heap.size) (hn:∀k,no k→w0.heap.size≤k) (hk:Kept w0 w):Kept w0 w':=⟨h.os.trans hk.os,h.tape.trans hk.tape,h.output.trans hk.output,Nat.le_trans hs h.size,fun k hk2=>(h.Bd k (by omega) (fun q=>by have:=hn k q;omega)).trans (hk.Bd k hk2),Nat.le_trans hk.drawn h.drawn⟩
theorem Gg {no:Nat→Prop} {w:World} (b:Nat):¬(D8 no w).own b:=fun ⟨_,_,h,_⟩=>by cases h
theorem y8 {no:Nat→Prop} {w:World} (h:∀b,no b→b<w.heap.size):Oh (D8 no w):=⟨fun _=>rfl,h⟩
theorem Oo.rel {no:Nat→Prop} {w w':World} (h:Oo no w w') {x:AV} {v:Value} (r:A9 (D8 no w) x v) (q:clean x=true):A9 (D8 no w') x v:=by
 refine r.Hp (c:=D8 no w) (c':=D8 no w') (fun b ⟨q1,q2,q3⟩=>⟨Nat.lt_of_lt_of_le q1 h.size,Gg b,q3⟩) (fun b o vs ⟨q1,q2,q3⟩ hc j v hv=> ?_) q
 rw [← hc j v hv]
 simp only [World.cell?]
 rw [show (D8 no w').w=w' from rfl,h.Bd b q1 q3]
 rfl
theorem Oo.Anx {no:Nat→Prop} {w w':World} (h:Oo no w w') {x:List AV} {v:List Value} (r:Be (D8 no w) x v) (q:Ap x=true):Be (D8 no w') x v:=by
 refine r.Hp (c:=D8 no w) (c':=D8 no w') (fun b ⟨q1,q2,q3⟩=>⟨Nat.lt_of_lt_of_le q1 h.size,Gg b,q3⟩) (fun b o vs ⟨q1,q2,q3⟩ hc j v hv=> ?_) q
 rw [← hc j v hv]
 simp only [World.cell?]
 rw [show (D8 no w').w=w' from rfl,h.Bd b q1 q3]
 rfl
theorem B2.gH {gl:Nat→Option (List AV)} {no:Nat→Prop} {w w':World} (hk:Oo no w w') (h:B2 gl (D8 no w)):B2 gl (D8 no w'):=fun g cs hg=>⟨(h g cs hg).1,hk.rel (h g cs hg).2.1 (by simpa [clean] using (h g cs hg).1),fun q=>by
 obtain ⟨h0,arr,T,fz,h1,h2⟩:=(h g cs hg).2.2 q
 exact ⟨⟨Nat.lt_of_lt_of_le h0.1 hk.size,Gg _,h0.2.2⟩,arr,T,fz,(hk.Bd g h0.1 h0.2.2).trans h1,h2⟩⟩
theorem B2.no {gl:Nat→Option (List AV)} {no:Nat→Prop} {w:World} (h:B2 gl (D8 (fun _=>False) w)) (hn:∀k,no k→w.heap.size≤k):B2 gl (D8 no w):=B2.B1 (c:=D8 (fun _=>False) w) rfl (fun b ⟨q1,q2,q3⟩=>⟨q1,Gg b,fun k=>by have:=hn b k;exact absurd q1 (by show ¬b<w.heap.size;omega)⟩) h
theorem Aji {no no':Nat→Prop} {w:World} {x:AV} {v:Value} (r:A9 (D8 no w) x v) (q:clean x=true) (h:∀b,b<w.heap.size→no' b→no b):A9 (D8 no' w) x v:=r.Hp (c:=D8 no w) (c':=D8 no' w) (fun b ⟨q1,q2,q3⟩=>⟨q1,Gg b,fun k=>q3 (h b q1 k)⟩) (fun _ _ _ _ hc=>hc) q
theorem Ahk {P:Program} {gl:Nat→Option (List AV)} {f:FuncId} {args:List AV} {v:AV} (h:Cj P gl f args v) {no:Nat→Prop} {w:World} (hn:∀b,no b→b<w.heap.size) (hgl:B2 gl (D8 no w)) {vals:List Value} (hr:Be (D8 no w) args vals) (n:Nat):
  CallsIn Fence.wide n P f vals.toArray w (fun e w'=>∃v',e=.returned v'∧Kept w w'∧A9 (D8 no w') v v'):=by
 obtain ⟨h1,h2,-,h4⟩:=h
 have hc1:Oh (D8 no w):=y8 hn
 refine callsIn_wide.2 ((h4 _ (D8 no w) vals hc1.Td hgl (fun _ _ h=>by cases h) hr).mono ?_)
 rintro e w' ⟨v',c',rfl,rfl,k1,k2,k3,k4,k5⟩
 refine ⟨v',rfl,⟨k2.os,k2.tape,k2.output,k2.size,fun i hi=>k2.Bd i hi (hc1.own i),k2.drawn⟩,A9.B1 (c:=c') (c0:=D8 no c'.w) rfl (fun i ⟨q1,q2,q3⟩=>⟨q1,Gg i,fun q=>q3 ((k2.no i).2 q)⟩) k1 h2⟩
end Go.Proofs.YtmechmjjcgdpdaaGreatDoor
set_option linter.unusedVariables false
set_option linter.unusedSimpArgs false
namespace Go.Proofs.YtmechmjjcgdpdaaGreatDoor
open Go.RowKit Go.Shelf
abbrev Bx (w:World) (b:Nat) (T:TypeId) (v:Value):Prop:=w.heap[b]?=some (.cells #[v] T (0,0))
theorem Bx.cell {w:World} {b:Nat} {T:TypeId} {v:Value} (h:Bx w b T v):w.cell? ⟨b,0,none⟩=some v:=by unfold Bx at h;simp [World.cell?,h]
theorem Bx.frozen {w:World} {b:Nat} {T:TypeId} {v:Value} (h:Bx w b T v):w.frozen? ⟨b,0,none⟩=false:=by unfold Bx at h;simp [World.frozen?,h]
theorem Ww {w:World} {g:Nat} {cur:Array Value} {T:TypeId} (h:w.heap[g]?=some (.cells cur T (0,0))) (k:Nat) (v:Value):(w.setCell ⟨g,k,none⟩ v).heap[g]?=some (.cells (cur.setIfInBounds k v) T (0,0)):=by
 unfold World.setCell
 simp only [Array.getElem?_modify,h]
 simp
theorem Bx.set {w:World} {b:Nat} {T:TypeId} {v:Value} (h:Bx w b T v) (u:Value):Bx (w.setCell ⟨b,0,none⟩ u) b T u:=by
 have:=Ww h 0 u
 unfold Bx
 rw [this]
 rfl
theorem Bx.other {w:World} {b:Nat} {T:TypeId} {v:Value} (h:Bx w b T v) {k:Nat} (hk:b≠k) (u:Value):Bx (w.setCell ⟨k,0,none⟩ u) b T v:=by
 unfold Bx at*;rw [Below.heap_setCell _ _ _ _ hk];exact h
theorem Jp {c:Cx} {z:Int} {v:Value} (h:A9 c (Aa z) v):v=.int .i64 z:=by cases h;rfl
theorem Oo.mono {no no':Nat→Prop} {w w':World} (h:Oo no w w') (hs:∀k,no k→no' k):Oo no' w w':=⟨h.os,h.tape,h.output,h.size,fun k hk hb=>h.Bd k hk (fun q=>hb (hs k q)),h.drawn⟩
theorem Qk {α:Type} {E:En α} {no:Nat→Prop} {w:World} {l:List α} {v:Value} (h:A9 (D8 no w) (Ai E l) v) (hl:l≠[]):∃b off cap,v=.slice (some ⟨b,off,none⟩) l.length cap∧b<w.heap.size∧¬no b∧∀(i:Nat) (x:α),l[i]?=some x→∀(j:Nat) (u:Value),j<E.size→(E.enc x)[j]?=some (.sc u)→w.cell? ⟨b,off+(i*E.size+j),none⟩=some u:=by
 unfold Ai at h
 generalize hcs:Az E l=cs at h
 generalize hq:l.length=q at h
 cases h with
 |Dy a cap ex he hm hn=>exact absurd (List.eq_nil_of_length_eq_zero hq) hl
 |Dh hb h hc hn he hm=>
  refine ⟨_,_,_,rfl,hb.1,hb.2.2,fun i x hx j u hj hu=> ?_⟩
  subst hcs
  have h1:=Kv (E:=E) hx j hj
  rw [hu] at h1
  obtain ⟨v',g1,g2⟩:=h.get h1
  cases g2
  exact hc _ _ g1
theorem Kept.drew {w w':World} (h:Kept w w'):Kept w w'.drew:=⟨h.os,h.tape,h.output,h.size,h.Bd,Nat.le_trans h.drawn (Lk (Nat.le_succ _))⟩
theorem Kept.drewN {w w':World} (h:Kept w w') (n:Nat):Kept w (w'.drewN n):=⟨h.os,h.tape,h.output,h.size,h.Bd,Nat.le_trans h.drawn (Lk (Nat.le_add_right _ _))⟩
theorem Kept.cell {w w':World} (h:Kept w w') {a:Addr} (ha:a.block<w.heap.size):w'.cell? a=w.cell? a:=by simp [World.cell?,h.Bd _ ha]
theorem Fo {α:Type} {E:En α} {c:Cx} {o:List α} {v:Value} (hr:A9 c (Ai E o) v):∃a cap,v=.slice a o.length cap:=by
 unfold Ai at hr
 generalize hcs:Az E o=cs at hr
 generalize hq:o.length=q at hr
 cases hr with
 |Dy a cap ex he hm hn=>exact ⟨_,_,rfl⟩
 |Dh hb h hc hn he hm=>exact ⟨_,_,rfl⟩
theorem Bx.new (w:World) (T:TypeId) (v:Value):Bx (w.alloc (.cells #[v] T)) w.heap.size T v:=World.alloc_heap_new _ _
theorem Bx.alloc {w:World} {b:Nat} {T:TypeId} {v:Value} (h:Bx w b T v) (o:Obj):Bx (w.alloc o) b T v:=(Below.heap_alloc w o b (Ck h)).trans h
theorem Bx.kept {w w':World} {b:Nat} {T:TypeId} {v:Value} (h:Bx w b T v) (k:Kept w w'):Bx w' b T v:=(k.Bd b (Ck h)).trans h
theorem Kept.al {w w':World} (h:Kept w w') (o:Obj):Kept w (w'.alloc o):=h.trans (Kept.alloc _ _)
theorem Kept.set {w w':World} (h:Kept w w') (a:Addr) (ha:w.heap.size≤a.block) (v:Value):Kept w (w'.setCell a v):=
 ⟨h.os,h.tape,h.output,by have:=h.size;simpa using this,fun k hk=>by rw [Below.heap_setCell _ _ _ _ (by omega)];exact h.Bd k hk,h.drawn⟩
theorem mL {c:Cx} {b:Bool} {v:Value} (h:A9 c (Ae b) v):v=.bool b:=by cases h;rfl
theorem Ao4 (w:World) (x:Value) (T:TypeId):∀j u,([x]:List Value)[j]?=some u→(w.alloc (.cells #[x] T)).cell? ((⟨w.heap.size,0,none⟩:Addr).add j)=some u:=by
 intro j u hu
 have hh:(w.alloc (.cells #[x] T)).heap[w.heap.size]?=some (.cells #[x] T (0,0)):=World.alloc_heap_new w _
 rw [show (⟨w.heap.size,0,none⟩:Addr).add j=⟨w.heap.size,j,none⟩ by unfold Addr.add;split<;>simp_all]
 match j,hu with
 |0,hu=>simp only [World.cell?,hh];simpa using hu
 |j+1,hu=>simp at hu
theorem rV {α:Type} {E:En α} {no:Nat→Prop} {w:World} {l:List α} {v:Value} (h:A9 (D8 no w) (Ai E l) v) (hl:l≠[]):∃b off cap,v=.slice (some ⟨b,off,none⟩) l.length cap∧b<w.heap.size∧¬no b∧∀(i:Nat) (x:α),l[i]?=some x→∀(j:Nat) (u:AV),j<E.size→(E.enc x)[j]?=some u→∃y,w.cell? ⟨b,off+(i*E.size+j),none⟩=some y∧A9 (D8 no w) u y:=by
 unfold Ai at h
 generalize hcs:Az E l=cs at h
 generalize hq:l.length=q at h
 cases h with
 |Dy a cap ex he hm hn=>exact absurd (List.eq_nil_of_length_eq_zero hq) hl
 |Dh hb h hc hn he hm=>
  refine ⟨_,_,_,rfl,hb.1,hb.2.2,fun i x hx j u hj hu=> ?_⟩
  subst hcs
  have h1:=Kv (E:=E) hx j hj
  rw [hu] at h1
  obtain ⟨v',g1,g2⟩:=h.get h1
  exact ⟨v',hc _ _ g1,g2⟩
end Go.Proofs.YtmechmjjcgdpdaaGreatDoor
