/- A part. -/
import Derived.Test.YtkdodbfnocdkdaaGreatDoorPF
import Derived.Shelf.SlSortCmp.InsertionK
import Derived.Sort.AssemblyPlain
set_option linter.unusedVariables false
set_option linter.unusedSimpArgs false
namespace Go.Proofs.YtkdodbfnocdkdaaGreatDoor
open Go.RowKit Go.Sort
def scV:AV→Value
 |.sc v=>v
 |_=>undef
section
variable {α:Type}
def Hw (E:En α) (x:α):List Value:=(E.enc x).map scV
theorem fE (E:En α) (x:α):(Hw E x).length=E.size:=by rw [Hw,List.length_map,E.len]
theorem Zm {c:Cx}:∀{cs:List AV} {vs:List Value},cs.all K5=true→Bm c cs vs→vs=cs.map scV
 |[],_,_,h=>by cases h;rfl
 |x::cs,_,ha,h=>by
  simp only [List.all_cons,Bool.and_eq_true] at ha
  cases h with
  |cons h t=>
   rw [Zm ha.2 t,List.map_cons]
   congr 1
   cases x with
   |sc v=>cases h with|sc _ _=>rfl
   |_=>simp [K5] at ha
def sP (E:En α):Prop:=∀x,∀c∈E.enc x,∃v,c=.sc v∧Nx v=true
theorem sP.sc {E:En α} (h:sP E):ScE E:=fun x=>List.all_eq_true.2 fun c hc=>by obtain ⟨v,rfl,-⟩:=h x c hc;rfl
theorem R4 {E:En α} (h:sP E) (c:Cx) (x:α):Bm c (E.enc x) (Hw E x):=by
 have key:∀cs:List AV,(∀a∈cs,∃v,a=.sc v∧Nx v=true)→Bm c cs (cs.map scV):=by
  intro cs
  induction cs with
  |nil=>intro _;exact .nil
  |cons a cs ih=>
   intro ha
   obtain ⟨v,rfl,hv⟩:=ha a (by simp)
   exact .cons (.sc v hv) (ih fun b hb=>ha b (by simp [hb]))
 exact key _ (h x)
theorem aN {E:En α} (h:sP E) (x:α):∀v∈Hw E x,v.oneCell'=true:=by
 intro v hv
 obtain ⟨a,ha,rfl⟩:=List.mem_map.1 hv
 obtain ⟨u,rfl,hu⟩:=h x a ha
 cases u<;>simp [Nx] at hu<;>rfl
theorem gN {W w':World} (h1:w'.os=W.os) (h2:w'.tape=W.tape) (h3:w'.output=W.output) (h4:W.heap.size≤w'.heap.size) (h5:∀b,b<W.heap.size→w'.heap[b]?=W.heap[b]?) (h6:W.drawn≤w'.drawn):∃q os',w'=Sort.grow (W.drewN q) os':=by
 refine ⟨w'.drawn-W.drawn,w'.heap.extract W.heap.size w'.heap.size,?_⟩
 have hh:w'.heap=W.heap++w'.heap.extract W.heap.size w'.heap.size:=by
  apply Array.ext_getElem?
  intro k
  rw [Array.getElem?_append]
  split
  ·rename_i hk;exact h5 k hk
  ·rename_i hk
   rw [Array.getElem?_extract]
   split
   ·congr 1;omega
   ·rename_i hk2
    rw [Array.getElem?_eq_none (by omega)]
 cases w' with
 |mk heap tape drawn os output=>
  have hd:drawn=W.drawn+(drawn-W.drawn):=by have:W.drawn≤drawn:=h6;omega
  show World.mk heap tape drawn os output=Sort.grow (W.drewN (drawn-W.drawn)) _
  have e1:tape=W.tape:=h2
  have e2:os=W.os:=h1
  have e3:output=W.output:=h3
  have e4:heap=W.heap++heap.extract W.heap.size heap.size:=hh
  subst e1;subst e2;subst e3
  unfold Sort.grow
  simp only [World.drewN]
  congr 1
end
end Go.Proofs.YtkdodbfnocdkdaaGreatDoor
set_option linter.unusedVariables false
set_option linter.unusedSimpArgs false
namespace Go.Proofs.YtkdodbfnocdkdaaGreatDoor
open Go.RowKit Go.Sort
def Aol (m:Mem) (id:Nat) (a b:AV):Prop:=(a=b∧clean a=true)∨(∃j off cs t,a=.ptr j off∧j≠id∧Al m j=some ⟨cs,t⟩∧Bk cs=true∧b=.Cq cs off)
def P3 (m:Mem) (id:Nat):List AV→List AV→Prop
 |[],[]=>True
 |a::r,b::s=>Aol m id a b∧P3 m id r s
 |_,_=>False
theorem Uh {m:Mem} {id:Nat}:P3 m id [] []:=trivial
theorem Qd {m:Mem} {id:Nat}:∀{a b:List AV},P3 m id a b→Bk b=true
 |[],[],_=>rfl
 |a::r,b::s,⟨h,t⟩=>by
  simp only [Bk,Bool.and_eq_true]
  refine ⟨?_,Qd t⟩
  rcases h with ⟨rfl,h⟩|⟨j,off,cs,ty,rfl,-,-,h,rfl⟩
  ·exact h
  ·simpa [clean] using h
 |[],_::_,h=>h.elim
 |_::_,[],h=>h.elim
def Cx.rest (c:Cx) (By:Nat):Cx:=⟨c.w,fun _=>By,fun i=>i=0,fun i=>if i=0 then some ⟨[],0⟩ else none,c.no⟩
theorem Rb {c:Cx} {By b:Nat}:(c.rest By).own b↔b=By:=by
 constructor
 ·rintro ⟨id,bk,-,h⟩;exact h.symm
 ·rintro rfl;exact ⟨0,⟨[],0⟩,rfl,rfl⟩
section
variable {B:Nat} {c:Cx} {id:Nat} {bk:Be}
theorem My (hM:c.M id=some bk) {b:Nat} (h:c.Bx b):(c.rest (c.f id)).Bx b:=⟨h.1,fun ho=>h.2.1 ⟨id,bk,hM,(Rb.1 ho).symm⟩,h.2.2⟩
theorem bK (g:Good B c) (hM:c.M id=some bk) {m:Mem} (hm:∀j b,Al m j=some b→c.M j=some b):∀{caps caps':List AV} {vs:List Value},P3 m id caps caps'→Bm c caps vs→Bm (c.rest (c.f id)) caps' vs
 |[],[],_,_,h=>by cases h;exact .nil
 |a::r,b::s,_,⟨hk,ht⟩,h=>by
  cases h with
  |cons h t=>
   refine .cons ?_ (bK g hM hm ht t)
   rcases hk with ⟨rfl,hc⟩|⟨j,off,cs,ty,rfl,hj,hb,hc,rfl⟩
   ·exact Bo.Ca (c:=c) (c0:=c.rest (c.f id)) rfl (fun b hb=>My hM hb) h hc
   ·cases h with
    |ptr ha=>
     have hMj:=hm j _ hb
     obtain ⟨arr,vs,rest,q1,q2,q3,q4⟩:=g.cells hMj
     have hlow:=(g.low j _ hMj).1
     have st:(c.rest (c.f id)).Bx (c.f j):=⟨g.lt hMj,fun ho=>hj (g.inj j id _ _ hMj hM (Rb.1 ho)),fun hn=>by have:c.f j<B:=g.Jg _ hn;omega⟩
     have:=Bo.Cq (c:=c.rest (c.f id)) (o:=0) st (Bm.Ca (c:=c) (c0:=c.rest (c.f id)) rfl (fun b hb=>My hM hb) q3 hc) q4 off
     rw [Nat.zero_add] at this
     exact this
 |[],_::_,_,h,_=>h.elim
 |_::_,[],_,h,_=>h.elim
end
structure But (w W:World) (By:Nat):Prop where
 os:W.os=w.os
 tape:W.tape=w.tape
 output:W.output=w.output
 size:w.heap.size≤W.heap.size
 oth:∀b,b<w.heap.size→b≠By→W.heap[b]?=w.heap[b]?
 By:∀(arr:Array Value) (T:TypeId),w.heap[By]?=some (.cells arr T)→∃arr':Array Value,W.heap[By]?=some (.cells arr' T)∧arr'.size=arr.size
 drawn:w.drawn≤W.drawn
section
variable {α:Type} [Inhabited α]
theorem fL (enc:α→List Value) (k:Nat) (w:World) (By off n:Nat) (d:Array α) (os:Array Obj):But w (sortWorldK enc k w By off n d os) By where
 os:=rfl
 tape:=rfl
 output:=rfl
 size:=size_sortWorldK_c enc k w By off n d os
 oth:=fun b hb hne=>by
  show ((w.heap.modify By _)++os)[b]?=_
  rw [Array.getElem?_append_left (by simpa using hb),Array.getElem?_modify,if_neg (fun h=>hne h.symm)]
 By:=fun arr T h=>by
  have hb:By<w.heap.size:=E9 h
  refine ⟨putCells id off (flatK enc k d) arr,?_,by simp [putCells]⟩
  show ((w.heap.modify By _)++os)[By]?=_
  rw [Array.getElem?_append_left (by simpa using hb),Array.getElem?_modify,if_pos rfl,h]
  rfl
 drawn:=Nat.le_add_right _ _
theorem xU {c:Cx} {By:Nat} {W:World} (h:But c.w W By):Step (c.rest By) {c.rest By with w:=W} where
 os:=h.os
 tape:=h.tape
 output:=h.output
 size:=h.size
 By:=fun b hb hn=>h.oth b hb fun e=>hn (Rb.2 e)
 own:=fun b _ ho=>ho
 f:=fun _ _=>rfl
 al:=fun _ h=>h
 no:=fun _=>Iff.rfl
 Xm:=fun b arr T hb=>by
  by_cases e:b=By
  ·subst e;exact h.By arr T hb
  ·exact ⟨arr,(h.oth b (E9 hb) e).trans hb,rfl⟩
 drawn:=bB h.drawn
variable {P:Program} {gl:Nat→Option (List AV)} {E:En α}
theorem yX (hx:lax=false) {B:Nat} {c:Cx} {id:Nat} {bk:Be} (hE:sP E) (g:Good B c) (hgl:Cw gl c) (hM:c.M id=some bk) {caps':List AV} {capv:List Value} (hcr:Bm (c.rest (c.f id)) caps' capv) (hcc:Bk caps'=true) {gg:FuncId} {cf:α→α→Int}
  (hcmp:∀x y,Ci P gl gg (.agg (E.enc x)::.agg (E.enc y)::caps') (Aa (cf x y))) (off size:Nat):CmpLays P gg capv.toArray (Hw E) E.size cf (c.f id) off size c.w:=by
 intro m os dk hs x y
 have hbut:=fL (Hw E) E.size c.w (c.f id) off m dk os
 generalize sortWorldK (Hw E) E.size c.w (c.f id) off m dk os=W at hbut ⊢
 have stp:=xU (c:=c) hbut
 have hlt:=g.lt hM
 have hno:∀b,(b=c.f id∨c.no b)→b<W.heap.size:=by
  rintro b (rfl|h)
  ·exact Nat.lt_of_lt_of_le hlt hbut.size
  ·have:=g.Jg b h;have:=g.hB;have:=hbut.size;omega
 let D:Cx:=Cx.alone {c.rest (c.f id) with w:=W} (fun b=>b=c.f id∨c.no b)
 have hst:∀b,({c.rest (c.f id) with w:=W}:Cx).Bx b→D.Bx b:=fun b ⟨h1,h2,h3⟩=>⟨h1,Ct,fun h=>h.elim (fun e=>h2 (Rb (c:={c with w:=W}).2 e)) h3⟩
 have hcaps:Bm D caps' capv:=Bm.Ca (c:={c.rest (c.f id) with w:=W}) (c0:=D) rfl hst (hcr.step stp) hcc
 have hglD:Cw gl D:=by
  have h1:Cw gl (c.rest (c.f id)):=Cw.Ca (c:=c) (c0:=c.rest (c.f id)) rfl (fun b hb=>My hM hb) hgl
  exact Cw.Ca (c:={c.rest (c.f id) with w:=W}) (c0:=D) rfl hst (h1.step stp)
 have hr:Bm D (.agg (E.enc x)::.agg (E.enc y)::caps') (.agg (Hw E x).toArray::.agg (Hw E y).toArray::capv):=.cons (.agg (R4 hE D x)) (.cons (.agg (R4 hE D y)) hcaps)
 have hcall:=(hcmp x y).2.2.2 W.heap.size D _ (Eb (c:={c.rest (c.f id) with w:=W}) hno) hglD (fun _ _ h=>by cases h) hr
 have e1:(#[Value.agg (Hw E x).toArray,Value.agg (Hw E y).toArray]++capv.toArray)=(Value.agg (Hw E x).toArray::Value.agg (Hw E y).toArray::capv).toArray:=by apply Array.ext';simp
 rw [e1]
 refine hcall.mono ?_
 rintro e w' ⟨v',c',rfl,rfl,k1,k2,k3,k4,k5⟩
 refine ⟨by cases k1;rfl,gN k2.os k2.tape k2.output k2.size (fun b hb=>k2.By b hb Ct) (Ado hx k2.drawn)⟩
end
end Go.Proofs.YtkdodbfnocdkdaaGreatDoor
set_option linter.unusedVariables false
set_option linter.unusedSimpArgs false
namespace Go.Proofs.YtkdodbfnocdkdaaGreatDoor
open Go.RowKit Go.Sort
def Zw (P:Program) (f k:Nat):Prop:=∀(β:Type) [Inhabited β] (enc:β→List Value) (hk:∀x,(enc x).length=k) (h1:∀x,∀v∈enc x,v.oneCell'=true) (cf:β→β→Int) (hO:SWO (ltOf cf)) (g:Nat) (cb:Array Value) (By off cap:Nat) (d:Array β) (w:World),
 (∀args w,(callFunc g args).run P w=.ok (.enter g args) w)→CmpLays P g cb enc k cf By off d.size w→HoldsK enc k w By off d→By<w.heap.size→d.size<4611686018427387904→
 Calls P f #[.slice (some ⟨By,off,none⟩) d.size cap,.func (.func g) #[] cb] w fun e w'=>e=.returned (.tuple #[])∧∃n os,w'=sortWorldK enc k w By off n (pdq (ltOf cf) d 0 d.size (Lib.bitLen d.size) true true) os
def Ib {α:Type} [Inhabited α] (cf:α→α→Int) (l:List α):List α:=(pdq (ltOf cf) l.toArray 0 l.toArray.size (Lib.bitLen l.toArray.size) true true).toList
section
variable {α:Type} [Inhabited α]
theorem Tr {cf:α→α→Int} (hO:SWO (ltOf cf)) (l:List α):(Ib cf l).length=l.length∧(Ib cf l).Perm l∧(Ib cf l).Pairwise (fun x y=>ltOf cf y x=false):=by
 obtain ⟨⟨h1,-,h2⟩,h3⟩:=pdq_sorts (ltOf cf) hO l.toArray 0 l.toArray.size (Lib.bitLen l.toArray.size) true true (Nat.zero_le _) (Nat.le_refl _) (Or.inl rfl)
 refine ⟨by simpa [Ib] using h1,?_,?_⟩
 ·generalize hd:pdq (ltOf cf) l.toArray 0 l.toArray.size (Lib.bitLen l.toArray.size) true true=d at h1 h2
  have e1:d.extract 0 l.toArray.size=d:=by rw [← h1];simp
  have e2:l.toArray.extract 0 l.toArray.size=l.toArray:=by simp
  rw [e1,e2] at h2
  have e:Ib cf l=d.toList:=by unfold Ib;rw [hd]
  rw [e]
  simpa using h2
 ·rw [List.pairwise_iff_getElem]
  intro i j hi hj hij
  have hs:(pdq (ltOf cf) l.toArray 0 l.toArray.size (Lib.bitLen l.toArray.size) true true).size=l.toArray.size:=h1
  have hj':j<l.toArray.size:=by rw [← hs];simpa [Ib] using hj
  have:=h3 i j (Nat.zero_le _) hij hj'
  have g1:(Ib cf l)[i]=(pdq (ltOf cf) l.toArray 0 l.toArray.size (Lib.bitLen l.toArray.size) true true)[i]! :=by
   rw [getElem!_pos _ i (by omega)];simp [Ib]
  have g2:(Ib cf l)[j]=(pdq (ltOf cf) l.toArray 0 l.toArray.size (Lib.bitLen l.toArray.size) true true)[j]! :=by
   rw [getElem!_pos _ j (by omega)];simp [Ib]
  rw [g1,g2]
  exact this
theorem cR {E:En α} (hE:sP E) (c:Cx) (d:Array α):Bm c (A0 E d.toList) (flatK (Hw E) E.size d).toList:=by
 refine Bm.Ag2 (by rw [Br];simp) fun t x v hx hv=> ?_
 have hp:=E.pos
 have ht:t<d.size*E.size:=by
  have:t<(A0 E d.toList).length:=by
   rcases Nat.lt_or_ge t (A0 E d.toList).length with h|h
   ·exact h
   ·rw [List.getElem?_eq_none h] at hx;cases hx
  rwa [Br,Array.length_toList] at this
 have hq:t / E.size<d.size:=Nat.div_lt_of_lt_mul (by rw [Nat.mul_comm];exact ht)
 have hm:t % E.size<E.size:=Nat.mod_lt _ hp
 have he:t / E.size*E.size+t % E.size=t:=by rw [Nat.mul_comm];exact Nat.div_add_mod t E.size
 have h1:=Of (E:=E) (l:=d.toList) (i:=t / E.size) (x:=d[t / E.size]!) (by rw [Array.getElem?_toList,getElem!_pos d _ hq,Array.getElem?_eq_getElem hq]) (t % E.size) hm
 rw [he,hx] at h1
 have h2:=get_flatK (Hw E) E.size d t ht
 have h3:v=(flatK (Hw E) E.size d)[t]! :=by
  rw [Array.getElem?_toList] at hv
  have hs:t<(flatK (Hw E) E.size d).size:=by rw [size_flatK];exact ht
  rw [Array.getElem?_eq_getElem hs] at hv
  rw [getElem!_pos _ t hs]
  exact (Option.some.inj hv).symm
 obtain ⟨v',hv',hr⟩:=(R4 hE c d[t / E.size]!).get h1.symm
 have h4:(Hw E d[t / E.size]!)[t % E.size]! =v':=by
  have hl:t % E.size<(Hw E d[t / E.size]!).length:=by rw [fE];exact hm
  rw [List.getElem?_eq_getElem hl] at hv'
  rw [getElem!_pos (Hw E d[t / E.size]!) (t % E.size) hl]
  exact Option.some.inj hv'
 rw [h3,h2,h4]
 exact hr
theorem Tw {P:Program} {g:FuncId} (h:E8 P g):∀args w,(callFunc g args).run P w=.ok (.enter g args) w:=by
 obtain ⟨fn,code,h1,h2,h3⟩:=h
 intro args w
 have h3':¬fn.name= "runtime.NumGoroutine" :=by simpa using h3
 simp [callFunc,h1,h2,h3']
theorem nO {E:En α} (hE:sP E) {w:World} {By:Nat} {arr:Array Value} {T:TypeId} {l:List α} {rest:List Value} (hb:w.heap[By]?=some (.cells arr T)) (hl:∃vs,arr.toList=vs++rest∧∃c,Bm c (A0 E l) vs):HoldsK (Hw E) E.size w By 0 l.toArray:=by
 intro j hj
 obtain ⟨vs,h1,c,h2⟩:=hl
 have hf:=cR hE c l.toArray
 have e1:vs=(A0 E l).map scV:=Zm (Hp hE.sc l) h2
 have e2:(flatK (Hw E) E.size l.toArray).toList=(A0 E l).map scV:=Zm (Hp hE.sc _) hf
 have hj':j<(flatK (Hw E) E.size l.toArray).toList.length:=by simpa using hj
 refine ⟨?_,?_⟩
 ·show World.cell? _ _=_
  unfold World.cell?
  simp only [hb,Option.isSome_none,Bool.false_eq_true,if_false,Nat.zero_add]
  rw [← Array.getElem?_toList,h1,e1,← e2,List.getElem?_append_left hj',List.getElem?_eq_getElem hj']
  simp only [Array.getElem_toList,id]
  rw [getElem!_pos _ j (by simpa using hj')]
 ·unfold World.frozen?
  simp only [hb]
  simp
theorem eH (hx:lax=false) {P:Program} {gl:Nat→Option (List AV)} {f g:FuncId} {E:En α} {k:Nat} (hk:E.size=k) (hE:sP E) (hS:Zw P f k) (hpf:E8 P f) {m:Mem} {nx id ty:Nat} {l:List α} {ex:Bool} (hb:Al m id=some ⟨A0 E l,ty⟩) (hn:l.length<4611686018427387904)
  {caps caps':List AV} (hc:P3 m id caps caps') {cf:α→α→Int} (hO:SWO (ltOf cf)) (hcmp:∀x y,Ci P gl g (.agg (E.enc x)::.agg (E.enc y)::caps') (Aa (cf x y))) {K:AV→Mem→Prop} (hK:K (.Bn []) (Ad m [(id,some ⟨A0 E (Ib cf l),ty⟩)])):
  C1 P gl m nx f [.sl id 0 k l.length l.length ex,.fn g caps] K:=by
 subst hk
 refine ⟨hpf,fun B c vals hg hgl hM ha hr=> ?_⟩
 have hMid:c.M id=some ⟨A0 E l,ty⟩:=by rw [hM];exact hb
 cases hr with
 |cons r1 r2=>
  cases r2 with
  |cons r2 r3=>
   cases r3
   cases r2 with
   |fn _ hcap=>
    rename_i capv
    cases r1 with
    |sl hal hb2 hs hnc hc2 hex hmx=>
     rename_i cap' arr0 T0
     obtain ⟨arr,vs,rest,q1,q2,q3⟩:=hg.By id _ hMid
     have hlt:=hg.lt hMid
     have hpg:E8 P g:=by
      cases l with
      |nil=>exact (hcmp default default).2.2.1
      |cons x l=>exact (hcmp x x).2.2.1
     have hcr:=bK hg hMid (m:=m) (fun j b h=>by rw [hM];exact h) hc hcap
     have hlay:=yX hx (off:=0) (size:=l.toArray.size) hE hg hgl hMid hcr (Qd hc) hcmp
     have hrow:HoldsK (Hw E) E.size c.w (c.f id) 0 l.toArray:=nO hE q1 ⟨vs,q2,c,q3⟩
     have hcall:=hS α (Hw E) (fE E) (aN hE) cf hO g capv.toArray (c.f id) 0 cap' l.toArray c.w (Tw hpg) hlay hrow hlt (by simpa using hn)
     have e0:l.toArray.size=l.length:=by simp
     rw [e0] at hcall
     refine hcall.mono ?_
     rintro e w' ⟨rfl,n,os,rfl⟩
     have hfacts:=Tr hO l
     generalize hd:pdq (ltOf cf) l.toArray 0 l.length (Lib.bitLen l.length) true true=d at*
     have hsl:Ib cf l=d.toList:=by simp only [Ib,e0,hd]
     have hbut:=fL (Hw E) E.size c.w (c.f id) 0 n d os
     have hsz:d.size=l.length:=by have:=hfacts.1;rw [hsl] at this;simpa using this
     obtain ⟨arr',b1,b2⟩:=hbut.By arr ty q1
     have hold2:=holdsK_sortWorldK_c (Hw E) E.size c.w (c.f id) 0 l.toArray d n os hrow hlt (by rw [hsz];simp)
     generalize sortWorldK (Hw E) E.size c.w (c.f id) 0 n d os=W at*
     let c':Cx:={c with w:=W,M:=fun j=>if j=id then some ⟨A0 E (Ib cf l),ty⟩ else c.M j}
     have hown:∀b,c'.own b→c.own b:=by
      rintro b ⟨j,bk,j1,j2⟩
      by_cases hj:j=id
      ·subst hj;exact ⟨j,_,hMid,j2⟩
      ·simp only [c',hj,if_false] at j1;exact ⟨j,bk,j1,j2⟩
     have stp:Step c c':=⟨hbut.os,hbut.tape,hbut.output,hbut.size,fun b hb' hno=>hbut.oth b hb' (fun e=>hno ⟨id,_,hMid,e.symm⟩),fun b _ ho=>hown b ho,fun _ _=>rfl,fun _ h=>h,fun _=>Iff.rfl,fun b a T h=>by
      by_cases e:b=c.f id
      ·subst e;exact hbut.By a T h
      ·exact ⟨a,(hbut.oth b (E9 h) e).trans h,rfl⟩,bB hbut.drawn⟩
     refine ⟨.Bn [],_,hK,.tuple #[],c',rfl,rfl,.Bn .nil,stp,⟨Nat.le_trans hg.hB hbut.size,fun j bk h=> ?_,fun j bk h=> ?_,hg.Jg,fun i j bi bj h h' hf=> ?_⟩,fun j=> ?_,fun j h=>Nat.lt_of_lt_of_le (ha j h) (Nat.le_add_right _ _)⟩
     ·by_cases hj:j=id
      ·subst hj;exact hg.low j _ hMid
      ·simp only [c',hj,if_false] at h;exact hg.low j bk h
     ·by_cases hj:j=id
      ·subst hj
       simp only [c',if_true,Option.some.injEq] at h
       subst h
       refine ⟨arr',(flatK (Hw E) E.size d).toList,arr'.toList.drop (d.size*E.size),b1,?_,?_⟩
       ·have hle:d.size*E.size≤arr'.toList.length:=by
         have h5:vs.length=l.length*E.size:=by rw [← q3.length,Br]
         have h6:arr.toList.length=vs.length+rest.length:=by rw [q2,List.length_append]
         rw [Array.length_toList] at h6 ⊢
         rw [b2,hsz];omega
        have h7:arr'.toList.take (d.size*E.size)=(flatK (Hw E) E.size d).toList:=by
         refine List.ext_getElem? fun t=> ?_
         rw [List.getElem?_take]
         split
         ·rename_i ht
          have:=(hold2 t (by rw [size_flatK];exact ht)).1
          unfold World.cell? at this
          simp only [b1,Option.isSome_none,Bool.false_eq_true,if_false,Nat.zero_add,id] at this
          rw [Array.getElem?_toList,this,Array.getElem?_toList]
          have hs2:t<(flatK (Hw E) E.size d).size:=by rw [size_flatK];exact ht
          rw [Array.getElem?_eq_getElem hs2,getElem!_pos _ t hs2]
         ·rename_i ht
          rw [Array.getElem?_toList,Array.getElem?_eq_none (by rw [size_flatK];omega)]
        rw [← h7,List.take_append_drop]
       ·show Bm c' (A0 E (Ib cf l)) _
        rw [hsl];exact cR hE c' d
      ·simp only [c',hj,if_false] at h
       obtain ⟨a,vs',r',k1,k2,k3⟩:=hg.By j bk h
       have hne:c.f j≠c.f id:=fun e=>hj (hg.inj j id _ _ h hMid e)
       exact ⟨a,vs',r',(hbut.oth (c.f j) (E9 k1) hne).trans k1,k2,k3.step stp⟩
     ·have hi:∃b,c.M i=some b:=by
       by_cases e:i=id
       ·subst e;exact ⟨_,hMid⟩
       ·simp only [c',e,if_false] at h;exact ⟨_,h⟩
      have hj:∃b,c.M j=some b:=by
       by_cases e:j=id
       ·subst e;exact ⟨_,hMid⟩
       ·simp only [c',e,if_false] at h';exact ⟨_,h'⟩
      obtain ⟨b1',hi⟩:=hi
      obtain ⟨b2',hj⟩:=hj
      exact hg.inj i j b1' b2' hi hj hf
     ·show (if j=id then _ else c.M j)=Al ((id,some ⟨A0 E (Ib cf l),ty⟩)::m) j
      by_cases hj:j=id
      ·subst hj;rw [if_pos rfl];simp [Al]
      ·rw [if_neg hj,Z5 (fun e=>hj e.symm),hM]
end
end Go.Proofs.YtkdodbfnocdkdaaGreatDoor
set_option linter.unusedVariables false
set_option linter.unusedSimpArgs false
namespace Go.Proofs.YtkdodbfnocdkdaaGreatDoor
open Go.RowKit Go.Sort
section
variable {α:Type}
def Aha (E:En α) (p:α→Prop):En {x // p x} where
 size:=E.size
 enc x:=E.enc x.1
 len x:=E.len x.1
 pos:=E.pos
 cell x:=E.cell x.1
 Q0 x:=E.Q0 x.1
 Uv x:=E.Uv x.1
theorem fR (E:En α) (p:α→Prop) (l:List {x // p x}):A0 (Aha E p) l=A0 E (l.map (·.1)):=by
 induction l with
 |nil=>rfl
 |cons x l ih=>rw [D4,ih,List.map_cons,D4];rfl
theorem dP (hx:lax=false) [DecidableEq α] {P:Program} {gl:Nat→Option (List AV)} {f g:FuncId} {E:En α} {k:Nat} (hk:E.size=k) (hE:sP E) (hS:Zw P f k) (hpf:E8 P f) {m:Mem} {nx id ty:Nat} {l l':List α} {ex:Bool} (hb:Al m id=some ⟨A0 E l,ty⟩) (hne:l≠[]) {caps caps':List AV} (hc:P3 m id caps caps')
  {cmp:α→α→Option Int} (hcmp:∀x y z,cmp x y=some z→Ci P gl g (.agg (E.enc x)::.agg (E.enc y)::caps') (Aa z)) (h:Pc cmp l=some l') {K:AV→Mem→Prop} (hK:K (.Bn []) (Ad m [(id,some ⟨A0 E l',ty⟩)])):
  C1 P gl m nx f [.sl id 0 k l.length l.length ex,.fn g caps] K:=by
 obtain ⟨h1,h2,ho⟩:=Ks h
 have hn:l.length<4611686018427387904:=by
  unfold Pc at h
  cases hc:U7 cmp l && decide (l.length<4611686018427387904) with
  |false=>rw [hc] at h;cases h
  |true=>simp only [Bool.and_eq_true,decide_eq_true_eq] at hc;exact hc.2
 let β:={x // x∈l}
 have inh:Inhabited β:=by
  cases l with
  |nil=>exact absurd rfl hne
  |cons x l=>exact ⟨⟨x,by simp⟩⟩
 let cf:β→β→Int:=fun x y=>(cmp x.1 y.1).getD 0
 have hlt:∀x y:β,ltOf cf x y=Mi cmp x.1 y.1:=fun x y=>rfl
 have hO:SWO (ltOf cf):=⟨fun x=>by rw [hlt];exact ho.irr x.2,fun x y z a b=>by rw [hlt] at*;exact ho.tra _ x.2 _ y.2 _ z.2 a b,fun x y z a b=>by rw [hlt] at*;exact ho.nle x.2 y.2 z.2 a b⟩
 have hat:(l.attach.map (·.1))=l:=by simp
 have hla:l.attach.length=l.length:=by simp
 have he:A0 (Aha E (·∈l)) l.attach=A0 E l:=by rw [fR,hat]
 have fin:(Ib cf l.attach).map (·.1)=l':=by
  obtain ⟨-,s2,s3⟩:=Tr hO l.attach
  have p1:((Ib cf l.attach).map (·.1)).Perm l:=by have:=s2.map (·.1);rwa [hat] at this
  refine O7 (R:=fun a b=>Mi cmp b a=false) (fun x hx y hy a b=> ?_) (p1.trans h1.symm) ?_ h2
  ·have mx:x∈l:=p1.mem_iff.1 hx
   have my:y∈l:=p1.mem_iff.1 hy
   rcases ho.Pe x mx y my with k|k|k
   ·rw [k] at b;cases b
   ·rw [k] at a;cases a
   ·exact k
  ·rw [List.pairwise_map]
   exact s3
 have:=eH hx (α:=β) (E:=Aha E (·∈l)) (k:=k) (f:=f) (g:=g) (nx:=nx) (id:=id) (ty:=ty) (l:=l.attach) (ex:=ex) (cf:=cf) (K:=K) (gl:=gl) hk (fun x c hc=>hE x.1 c hc) hS hpf (by rw [he];exact hb) (by rw [hla];exact hn) hc hO (fun x y=>by
  obtain ⟨z,hz⟩:=ho.some x.1 x.2 y.1 y.2
  have:=hcmp x.1 y.1 z hz
  show Ci P gl g (.agg (E.enc x.1)::.agg (E.enc y.1)::caps') (Aa ((cmp x.1 y.1).getD 0))
  rw [hz];exact this) (by rw [fR,fin];exact hK)
 rw [hla] at this
 exact this
end
end Go.Proofs.YtkdodbfnocdkdaaGreatDoor
set_option linter.unusedVariables false
set_option linter.unusedSimpArgs false
namespace Go.Proofs.YtkdodbfnocdkdaaGreatDoor
open Go.RowKit Go.Sort
def Yb (P:Program) (f:Nat):Prop:=∀(p:Option Addr) (cap:Nat) (fv:Value) (w:World),Calls P f #[.slice p 0 cap,fv] w fun e w'=>e=.returned (.tuple #[])∧w'=w
theorem R0 {α:Type} [DecidableEq α] {cmp:α→α→Option Int} {l l':List α} (h:Pc cmp l=some l'):l'.length=l.length:=(Ks h).1.length_eq
theorem Ts (hx:lax=false:=by rfl) {α:Type} [DecidableEq α] {P:Program} {gl:Nat→Option (List AV)} {f g:FuncId} {E:En α} {k:Nat} (hk:E.size=k) (hE:sP E) (hS:Zw P f k) (hS0:Yb P f) (hpf:E8 P f) {m:Mem} {nx id ty:Nat} {l0 l l':List α} (hl:l0.length=l.length) (hb:Al m id=Cn E ty l) {caps caps':List AV} (hc:P3 m id caps caps')
  {cmp:α→α→Option Int} (hcmp:∀x y z,cmp x y=some z→Ci P gl g (.agg (E.enc x)::.agg (E.enc y)::caps') (Aa z)) (h:Pc cmp l=some l') {K:AV→Mem→Prop} (hK:K (.Bn []) (Ad m [(id,Cn E ty l')])):
  C1 P gl m nx f [Bh E id l0,.fn g caps] K:=by
 have hlen:=R0 h
 cases l with
 |nil=>
  have h0:l0=[]:=List.eq_nil_of_length_eq_zero hl
  have h1:l'=[]:=List.eq_nil_of_length_eq_zero hlen
  subst h0;subst h1
  refine ⟨hpf,fun B c vals hg hgl hM ha hr=> ?_⟩
  cases hr with
  |cons r1 r2=>
   cases r2 with
   |cons r2 r3=>
    cases r3
    have key:∀(p:Option Addr) (cap:Nat) (fv:Value),Calls P f #[.slice p 0 cap,fv] c.w fun e w'=>∃v m',K v m'∧Hm B c v m' (nx+64) e w':=fun p cap fv=>(hS0 p cap fv c.w).mono fun e w' ⟨h1,h2⟩=>by
     subst h1;subst h2
     refine ⟨.Bn [],_,hK,.tuple #[],c,rfl,rfl,.Bn .nil,Step.refl c,hg,fun j=> ?_,fun j h=>Nat.lt_of_lt_of_le (ha j h) (Nat.le_add_right _ _)⟩
     show c.M j=Al ((id,none)::m) j
     rw [hM]
     by_cases hj:j=id
     ·subst hj;rw [mN,hb];rfl
     ·rw [Z5 (fun e=>hj e.symm)]
    have r1:Bo c (.Ec 0 [] true) _:=r1
    cases r1 with
    |Gd a cap ex he hm hn=>exact key a cap _
    |Ec hb h hc hn he hm=>exact key _ _ _
 |cons x l=>
  have hne:l0≠[]:=by rintro rfl;simp at hl
  have hne':l'≠[]:=by rintro rfl;simp at hlen
  rw [Fj hne,hk]
  have:=dP hx (f:=f) (g:=g) (nx:=nx) (id:=id) (ty:=ty) (ex:=false) hk hE hS hpf (hb.trans (C7 (by simp))) (by simp) hc hcmp h (K:=K) (gl:=gl) (by rw [C7 hne'] at hK;exact hK)
  rw [← hl] at this
  exact this
end Go.Proofs.YtkdodbfnocdkdaaGreatDoor
