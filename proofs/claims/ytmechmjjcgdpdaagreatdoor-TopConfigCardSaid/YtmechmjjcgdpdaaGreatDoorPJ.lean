/- A part. -/
import Derived.Test.YtmechmjjcgdpdaaGreatDoorPI
import Derived.Sort.Grow
set_option linter.unusedVariables false
set_option linter.unusedSimpArgs false
namespace Go.Proofs.YtmechmjjcgdpdaaGreatDoor
open Go.RowKit
section
variable {α:Type} {E:En α} {P:Program} {K:I5} {gl:Nat→Option (List AV)}
def Ar6 {α:Type} (by_:Nat) (L:List (List α)):Option (List α):=if L.length≤4611686018427387904∧L.flatten.length*by_≤281474976710656∧L.flatten.length≤4611686018427387904 then some L.flatten else none
end
section
variable {α:Type} {E:En α} {P:Program} {gl:Nat→Option (List AV)}
def cQ {α:Type} (l:List α):Option Unit:=if l.length<4611686018427387904 then some () else none
theorem Xc {l:List α} {u:Unit} (h:cQ l=some u):l.length<4611686018427387904:=by
 unfold cQ at h
 split at h
 ·assumption
 ·cases h
inductive Aaf (E:En α) (id:Nat) (l0 l:List α):List AV→List AV→Prop
 |here (xs:List AV):Aaf E id l0 l (B3 E id l0::xs) (Ai E l::xs)
 |skip (a:AV) {xs ys:List AV} (h:Aaf E id l0 l xs ys):Aaf E id l0 l (a::xs) (a::ys)
theorem oX {id:Nat} {l0 l:List α} {xs:List AV}:Aaf E id l0 l (B3 E id l0::xs) (Ai E l::xs):=.here xs
end
section
variable {P:Program} {gl:Nat→Option (List AV)} {look:Nat→Option Bk} {m:Mem}
def Aj4:En Bool where
 size:=1
 enc p:=[.ifc p]
 len _:=rfl
 pos:=by decide
 cell _:=rfl
 Cs _:=rfl
 Vr _:=rfl
theorem Aj4.nf:Kk Aj4:=by
 intro x c hc f l
 simp only [Aj4,List.mem_singleton] at hc
 subst hc
 exact fun h=>by cases h
structure Kept (w w':World):Prop where
 os:w'.os=w.os
 tape:w'.tape=w.tape
 output:w'.output=w.output
 size:w.heap.size≤w'.heap.size
 Bd:∀b,b<w.heap.size→w'.heap[b]?=w.heap[b]?
 drawn:dr w≤dr w'
theorem Kept.refl (w:World):Kept w w:=⟨rfl,rfl,rfl,Nat.le_refl _,fun _ _=>rfl,Nat.le_refl _⟩
theorem Kept.alloc (w:World) (o:Obj):Kept w (w.alloc o):=⟨rfl,rfl,rfl,by simp,fun b hb=>Below.heap_alloc w o b hb,Nat.le_refl _⟩
theorem Kept.grow (w:World) (k:Nat) (os:Array Obj):Kept w (Sort.grow (w.drewN k) os):=⟨rfl,rfl,rfl,by simp [Sort.grow],fun b hb=>by
 show ((w.heap++os:Array Obj))[b]?=_
 rw [Array.getElem?_append_left hb],Lk (Nat.le_add_right _ _)⟩
theorem Rv {c:Cx} {w':World} (h:Kept c.w w'):Step c {c with w:=w'} where
 os:=h.os
 tape:=h.tape
 output:=h.output
 size:=h.size
 Bd:=fun b hb _=>h.Bd b hb
 own:=fun b hb ho=>ho
 f:=fun _ _=>rfl
 al:=fun _ h=>h
 no:=fun _=>Iff.rfl
 Y9:=fun b arr T hb=>⟨arr,(h.Bd b (Ck hb)).trans hb,rfl⟩
 drawn:=h.drawn
theorem Xq {B:Nat} {c:Cx} {w':World} (g:Good B c) (h:Kept c.w w'):Good B {c with w:=w'}:=
 ⟨Nat.le_trans g.hB h.size,g.low,fun id b hb=>by
  obtain ⟨arr,vs,rest,q1,q2,q3⟩:=g.Bd id b hb
  exact ⟨arr,vs,rest,(h.Bd _ (Ck q1)).trans q1,q2,q3.step (Rv h)⟩,g.Lj,g.inj⟩
theorem Nj {f:FuncId} {args:List AV} {v:AV} (hp:Dp P f) (hc:Ap args=true) (hv:clean v=true)
  (h:∀(B:Nat) (c:Cx) (vals:List Value),Good B c→B2 gl c→Be c args vals→Calls P f vals.toArray c.w (fun e w'=>∃v',e=.returned v'∧Kept c.w w'∧A9 {c with w:=w'} v v')):Cj P gl f args v:=by
 refine ⟨hc,hv,hp,fun B c vals g hgl _ hr=>(h B c vals g hgl hr).mono ?_⟩
 rintro e w' ⟨v',rfl,hk,hvr⟩
 exact ⟨v',{c with w:=w'},rfl,rfl,hvr,Rv hk,Xq g hk,fun _=>rfl,fun _=>Iff.rfl⟩
end
section
variable {P:Program}
def Arv (a b:ByteArray):Option ByteArray:=if a.size+b.size≤9223372036854775807 then some (a++b) else none
end
theorem wE {P:Program} {t yt ty n:Nat} {look:Nat→Option Bk} {a:Int}:Cv P (.binOp .shr t (.tmp 0) (.tmp 1) yt) ty [.sc (.int .u64 a),.sc (.int .u64 1)] look n=some (.sc (.int .u64 (a.fdiv 2)),[]):=by
 have h:Cv P (.binOp .shr t (.tmp 0) (.tmp 1) yt) ty [.sc (.int .u64 a),.sc (.int .u64 1)] look n=some (.sc (match B4 P (Op.shift .shr .u64 a .u64 1) with|some v=>v|_=>undef),[]):=rfl
 rw [h]
 simp [Op.shift,IntKind.bits]
 rfl
theorem Aan {u v:AV} (h:u=v):leV u v:=fun _ _ r=>h ▸ r
def Aqm (x:AV):Prop:=C3 x=some [x]∧B7 x=true
theorem lk:(∀{m:Mem},Ac m []=m)∧(∀{m:Mem} {p:Nat×Option Bk} {r:Wr},Ac m (p::r)=Ac (p::m) r)∧(∀{m:Mem} {j:Nat} {v:Option Bk},Ao ((j,v)::m) j=v)∧(∀{m:Mem} {j i:Nat} {v:Option Bk},j≠i→Ao ((j,v)::m) i=Ao m i)∧
 (∀{α:Type} {E:En α} {m:Mem} {n id ty j:Nat} {l xs:List α},n≠j→id≠j→Ao (Ac m (Jj E n id ty l xs)) j=Ao m j)∧(∀{α:Type} {E:En α} {m:Mem} {n id ty:Nat} {l xs:List α} {x:α},n≠id→Ao (Ac m (Jj E n id ty l (x::xs))) n=B9 E ty (l++x::xs))∧(∀{α:Type} {E:En α} {m:Mem} {n id ty:Nat} {l xs:List α},xs≠[]→n≠id→Ao (Ac m (Jj E n id ty l xs)) n=B9 E ty (l++xs)):=
 ⟨gX,cZ,aH,Pa,dT,Sq,eI⟩
theorem oR {s:St} {pl:List (Nat×Nat)} {j:Nat} {v:AV} {r:List (Nat×AV)} (hr:okW s pl r) (h:E5 s.e j=Jx (Ji pl s.nx) v:=by rfl):okW s pl ((j,v)::r):=Ah (.inl (Aan h)) hr
theorem fS {m:Mem} {k:Nat} {v:Value} {r s:List AV} (hr:FzL (k+1) m r s):FzL (k+1) m (.sc v::r) (.sc v::s):=Di (Ahm _ _) hr
theorem Ct {ρ τ:Type} {c:ρ→τ} {e:ρ→AV} {v:Value} {r:ρ} {x t:τ} {R:AV→Mem→Prop} {m:Mem} (hR:∀r:ρ,t=c r→∀u m,B5 (e r) u m→R u m) (hx:x=c r) (he:e r=.sc v):some x=some t→A8 R m [some (.sc v)]:=fun hg=>gI (hR _ ((Option.some.inj hg).symm.trans hx)) (by rw [he];exact Ahm _ _)
end Go.Proofs.YtmechmjjcgdpdaaGreatDoor
