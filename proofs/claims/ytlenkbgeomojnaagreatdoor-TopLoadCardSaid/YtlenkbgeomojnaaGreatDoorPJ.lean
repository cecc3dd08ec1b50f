/- slices.Concat: what it answers as a plain list; sorts of texts. -/
import Derived.Test.YtlenkbgeomojnaaGreatDoorPI
import Derived.Sort.Grow
set_option linter.unusedVariables false
set_option linter.unusedSimpArgs false
namespace Go.Proofs.YtlenkbgeomojnaaGreatDoor
open Go.RowKit
section
variable {α:Type} {E:En α} {P:Program} {K:Cfg} {gl:Nat→Option (List AV)}
def catO {α:Type} (by_:Nat) (L:List (List α)):Option (List α):=if L.length≤4611686018427387904∧L.flatten.length*by_≤281474976710656∧L.flatten.length≤4611686018427387904 then some L.flatten else none
/- the answer as it is -/
end
section
variable {α:Type} {E:En α} {P:Program} {gl:Nat→Option (List AV)}
def lenO {α:Type} (l:List α):Option Unit:=if l.length<4611686018427387904 then some () else none
/- a literal slice that nobody writes any more, handed to a call -/
/- a slice of the run's own among the arguments, that nobody writes any more, handed to a call -/
inductive FrzL (E:En α) (id:Nat) (l0 l:List α):List AV→List AV→Prop
 |here (xs:List AV):FrzL E id l0 l (ownV E id l0::xs) (lstA E l::xs)
 |skip (a:AV) {xs ys:List AV} (h:FrzL E id l0 l xs ys):FrzL E id l0 l (a::xs) (a::ys)
theorem frzL_here {id:Nat} {l0 l:List α} {xs:List AV}:FrzL E id l0 l (ownV E id l0::xs) (lstA E l::xs):=.here xs
theorem frzL_skip {id:Nat} {l0 l:List α} {a:AV} {xs ys:List AV} (h:FrzL E id l0 l xs ys):FrzL E id l0 l (a::xs) (a::ys):=.skip a h
theorem pureD_frzT {n id ty:Nat} {look:Nat→Option ABlk} {f:FuncId} {l0 l:List α} {args ar:List AV} {v:AV} (hl:l0.length=l.length) (hb:look id=ownB E ty l) (hf:FrzL E id l0 l args ar) (h:Says P gl f ar v):PureD P gl look n f args v [(id,none)]:=by
 refine ⟨h.2.2.1,fun B c vals g hgl hn hlk hr=> ?_⟩
 let c1:Cx:={c with M:=fun j=>if j=id then none else c.M j}
 have hM1:∀j b,c1.M j=some b→j≠id∧c.M j=some b:=fun j b h=>by
  by_cases e:j=id
  ·simp only [c1,e,if_true] at h;cases h
  ·simp only [c1,e,if_false] at h;exact ⟨e,h⟩
 have own1:∀b,c1.own b→c.own b:=fun b ⟨j,bk,h1,h2⟩=>⟨j,bk,(hM1 j bk h1).2,h2⟩
 have st1:Step c c1:=⟨rfl,rfl,rfl,Nat.le_refl _,fun _ _ _=>rfl,fun b _ h=>own1 b h,fun _ _=>rfl,fun _ h=>h,fun _=>Iff.rfl,fun b a T h=>⟨a,h,rfl⟩,Nat.le_refl _⟩
 have g1:Good B c1:=⟨g.hB,fun j b h=>g.low j b (hM1 j b h).2,fun j b h=>by
   obtain ⟨arr,vs,rest,q1,q2,q3⟩:=g.blk j b (hM1 j b h).2
   exact ⟨arr,vs,rest,q1,q2,q3.step st1⟩,g.nol,fun i j bi bj hi hj hf=>g.inj i j bi bj (hM1 i bi hi).2 (hM1 j bj hj).2 hf⟩
 have one:∀w:Value,VRel c (ownV E id l0) w→VRel c1 (lstA E l) w:=by
  intro w r1
  cases l0 with
  |nil=>
   have:l=[]:=List.eq_nil_of_length_eq_zero hl.symm
   subst this
   have:=norm_rel (r1.step st1)
   simp only [ownV,norm] at this
   exact this
  |cons x l0=>
   have hne:l≠[]:=by rintro rfl;simp at hl
   rw [ownB_ne hne] at hb
   have hM:=hlk id _ hb
   have hlt:=g.lt hM
   have hlow:=(g.low id _ hM).1
   have hst:c1.stable (c.f id):=by
    refine ⟨hlt,?_,fun hno=> ?_⟩
    ·rintro ⟨j,bk,h1,h2⟩
     obtain ⟨e,h3⟩:=hM1 j bk h1
     exact e (g.inj j id bk _ h3 hM h2)
    ·have:c.f id<B:=g.nol _ hno
     omega
   obtain ⟨arr,vs,rest,q1,q2,q3,q4⟩:=g.cells hM
   rw [ownV_ne (by simp)] at r1
   cases r1 with
   |sl ha hb2 hs hnc hc2 hex hmx=>
    rw [hl] at hnc hc2 ⊢
    exact .lst (c:=c1) hst (q3.step st1) q4 hc2 (fun h=>by cases h) hmx
 have hrr:Rels c1 ar vals:=by
  clear h
  induction hf generalizing vals with
  |here xs=>
   cases hr with
   |cons r1 r2=>exact .cons (one _ r1) (r2.step st1)
  |skip a _ ih=>
   cases hr with
   |cons r1 r2=>exact .cons (r1.step st1) (ih _ r2)
 refine (h.2.2.2 B c1 vals g1 (hgl.step st1) (fun _ _ h=>by cases h) hrr).mono ?_
 rintro e w' hh
 obtain ⟨v',c',h1,h2,h3,h4,h5,h6,h7,h8⟩:=hh.toD (n:=n)
 refine ⟨v',c',h1,h2,h3,st1.trans h4,h5,fun i=> ?_,h7,h8⟩
 rw [h6]
 rfl
end
section
variable {P:Program} {gl:Nat→Option (List AV)} {look:Nat→Option ABlk} {m:Mem}
/- interfaces: nil or not -/
def ifcE:En Bool where
 size:=1
 enc p:=[.ifc p]
 len _:=rfl
 pos:=by decide
 cell _:=rfl
 cln _:=rfl
 nrm _:=rfl
theorem ifcE.nf:NoFn ifcE:=by
 intro x c hc f l
 simp only [ifcE,List.mem_singleton] at hc
 subst hc
 exact fun h=>by cases h
/- what was there is as it was -/
structure Kept (w w':World):Prop where
 os:w'.os=w.os
 tape:w'.tape=w.tape
 output:w'.output=w.output
 size:w.heap.size≤w'.heap.size
 blk:∀b,b<w.heap.size→w'.heap[b]?=w.heap[b]?
 drawn:dr w≤dr w'
theorem Kept.refl (w:World):Kept w w:=⟨rfl,rfl,rfl,Nat.le_refl _,fun _ _=>rfl,Nat.le_refl _⟩
theorem Kept.alloc (w:World) (o:Obj):Kept w (w.alloc o):=⟨rfl,rfl,rfl,by simp,fun b hb=>Below.heap_alloc w o b hb,Nat.le_refl _⟩
theorem Kept.grow (w:World) (k:Nat) (os:Array Obj):Kept w (Sort.grow (w.drewN k) os):=⟨rfl,rfl,rfl,by simp [Sort.grow],fun b hb=>by
 show ((w.heap++os:Array Obj))[b]?=_
 rw [Array.getElem?_append_left hb],dr_le (Nat.le_add_right _ _)⟩
/- a contract of the kit's, as what a function says -/
end
/- texts joined -/
section
variable {P:Program}
def strO (a b:ByteArray):Option ByteArray:=if a.size+b.size≤9223372036854775807 then some (a++b) else none
end
theorem opA_shr1 {P:Program} {t yt ty n:Nat} {look:Nat→Option ABlk} {a:Int}:opA P (.binOp .shr t (.tmp 0) (.tmp 1) yt) ty [.sc (.int .u64 a),.sc (.int .u64 1)] look n=some (.sc (.int .u64 (a.fdiv 2)),[]):=by
 have h:opA P (.binOp .shr t (.tmp 0) (.tmp 1) yt) ty [.sc (.int .u64 a),.sc (.int .u64 1)] look n=some (.sc (match pureRun P (Op.shift .shr .u64 a .u64 1) with|some v=>v|_=>undef),[]):=rfl
 rw [h]
 simp [Op.shift,IntKind.bits]
 rfl
/- slices in cells at the head of a loop; slices of functions -/
theorem leV_eq {u v:AV} (h:u=v):leV u v:=fun _ _ r=>h ▸ r
theorem encs_partP {α:Type} {E:En α} {l:List α} {i o sz:Nat} {x:α} (h:l[i]?=some x) (hle:o+sz≤E.size):((encs E l).drop (i*E.size+o)).take sz=((E.enc x).drop o).take sz:=by
 rw [← encs_part h,List.drop_take,List.take_take,List.drop_drop,Nat.min_eq_left (by omega)]
theorem ldA_blkP {α:Type} {E:En α} {look:Nat→Option ABlk} {id ty off o sz:Nat} {l:List α} {i:Nat} {x:α} {us:List AV} (hb:look id=some ⟨encs E l,ty⟩) (h:l[i]?=some x) (ho:off=i*E.size+o) (hle:o+sz≤E.size) (hv:((E.enc x).drop o).take sz=us):ldA look sz (.ptr id off)=some (.agg us,[]):=by
 have h2:=encs_bound (E:=E) h
 have hble:Nat.ble (i*E.size+o+sz) (encs E l).length=true:=Nat.ble_eq_true_of_le (by omega)
 simp only [ldA,hb,partA,ho,hble,cond_true,encs_partP h hle,hv,Option.map_some]
/- a slice of slices, laid as a literal -/
def rowAV (x:AV):Prop:=acells x=some [x]∧isCell x=true
/- a part of an element, stored -/
theorem storeW_part {α:Type} {E:En α} {P:Program} {look:Nat→Option ABlk} {t id off ty o i sz:Nat} {l:List α} {x y:α} {cs:List AV} {k:AV→Wr→Prop} (hu:(P.underlying t).map isAggD=some true) (hz:tsize P t=some sz) (hl:Nat.beq cs.length sz=true) (hv:cs.all isCell=true) (hb:look id=some ⟨encs E l,ty⟩) (h:l[i]?=some x) (ho:off=i*E.size+o) (hlt:o+cs.length≤E.size) (hy:aput (E.enc x) o cs=E.enc y)
  (hk:k .und [(id,some ⟨encs E (l.set i y),ty⟩)]):storeW P look t (.ptr id off) (.agg cs) k:=by
 have hbd:=encs_bound (E:=E) h
 refine storeW_cells hu hz hl hv hb (Nat.ble_eq_true_of_le (by omega)) ?_ hk
 rw [ho]
 exact encs_set_cell h hlt hy
theorem storeW_partO {α:Type} {E:En α} {P:Program} {look:Nat→Option ABlk} {t id off ty o i sz:Nat} {l:List α} {x y:α} {cs:List AV} {k:AV→Wr→Prop} (hu:(P.underlying t).map isAggD=some true) (hz:tsize P t=some sz) (hl:Nat.beq cs.length sz=true) (hv:cs.all isCell=true) (hb:look id=ownB E ty l) (h:l[i]?=some x) (ho:off=i*E.size+o) (hlt:o+cs.length≤E.size) (hy:aput (E.enc x) o cs=E.enc y)
  (hk:k .und [(id,ownB E ty (l.set i y))]):storeW P look t (.ptr id off) (.agg cs) k:=
 storeW_part hu hz hl hv (own_some hb h) h ho hlt hy (by rw [ownB_ne (set_ne h)] at hk;exact hk)
/- looks at memory that was written, as one theorem -/
theorem lk:(∀{m:Mem},mpushs m []=m)∧(∀{m:Mem} {p:Nat×Option ABlk} {r:Wr},mpushs m (p::r)=mpushs (p::m) r)∧(∀{m:Mem} {j:Nat} {v:Option ABlk},mget ((j,v)::m) j=v)∧(∀{m:Mem} {j i:Nat} {v:Option ABlk},j≠i→mget ((j,v)::m) i=mget m i)∧
 (∀{α:Type} {E:En α} {m:Mem} {n id ty j:Nat} {l xs:List α},n≠j→id≠j→mget (mpushs m (appW E n id ty l xs)) j=mget m j)∧(∀{α:Type} {E:En α} {m:Mem} {n id ty:Nat} {l xs:List α} {x:α},n≠id→mget (mpushs m (appW E n id ty l (x::xs))) n=ownB E ty (l++x::xs))∧(∀{α:Type} {E:En α} {m:Mem} {n id ty:Nat} {l xs:List α},xs≠[]→n≠id→mget (mpushs m (appW E n id ty l xs)) n=ownB E ty (l++xs)):=
 ⟨mpushs_nil,mpushs_cons,mget_hd,mget_tl,mget_appW_o,mget_appW_n,mget_appW_e⟩
/- short forms for printed texts -/
theorem oR {s:St} {pl:List (Nat×Nat)} {j:Nat} {v:AV} {r:List (Nat×AV)} (hr:okW s pl r) (h:eget s.e j=ren (piL pl s.nx) v:=by rfl):okW s pl ((j,v)::r):=okW_cons (.inl (leV_eq h)) hr
theorem fS {m:Mem} {k:Nat} {v:Value} {r s:List AV} (hr:FzL (k+1) m r s):FzL (k+1) m (.sc v::r) (.sc v::s):=fzL_cons (fz_sc _ _) hr
theorem rt1 {ρ τ:Type} {c:ρ→τ} {e:ρ→AV} {v:Value} {r:ρ} {x t:τ} {R:AV→Mem→Prop} {m:Mem} (hR:∀r:ρ,t=c r→∀u m,Ans (e r) u m→R u m) (hx:x=c r) (he:e r=.sc v):some x=some t→retL R m [some (.sc v)]:=fun hg=>ret1 (hR _ ((Option.some.inj hg).symm.trans hx)) (by rw [he];exact fz_sc _ _)
end Go.Proofs.YtlenkbgeomojnaaGreatDoor
