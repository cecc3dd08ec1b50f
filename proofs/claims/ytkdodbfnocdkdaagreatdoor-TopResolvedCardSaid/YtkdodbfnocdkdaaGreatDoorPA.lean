/- A part. -/
import Derived.Test.YtkdodbfnocdkdaaGreatDoorBase
import Derived.Test.YtkdodbfnocdkdaaGreatDoorLax
import Derived.Orders
import Derived.Below
import Derived.Laws.CopyRow
import Derived.Laws.Cells
import Derived.Laws.Tables
import Derived.Laws.Entries
import Derived.Laws.World
import Derived.Deep.Upon
import Derived.Laws.IdiomStrings
import Derived.Room.Entries
set_option linter.unusedVariables false
set_option linter.unusedSimpArgs false
namespace Go.Proofs.YtkdodbfnocdkdaaGreatDoor
inductive AV where
 |Es
 |sc (v:Value)
 |agg (cs:List AV)
 |Bn (vs:List AV)
 |Lb
 |ptr (id off:Nat)
 |Cq (cs:List AV) (off:Nat)
 |Bg
 |Ec (n:Nat) (cs:List AV) (ex:Bool)
 |sl (id off esz n cap:Nat) (ex:Bool)
 |fn (f:FuncId) (cs:List AV)
 |w8 (p:Bool)
 deriving Inhabited
structure Be where
 cells:List AV
 ty:TypeId
 deriving Inhabited
def Nx:Value→Bool
 |.bool _|.int _ _|.string _|.float _ _|.slice _ _ _=>true
 |_=>false
structure Cx where
 w:World
 f:Nat→Nat
 al:Nat→Prop
 M:Nat→Option Be
 no:Nat→Prop
def Cx.own (c:Cx) (b:Nat):Prop:=∃id By,c.M id=some By∧c.f id=b
def Cx.Bx (c:Cx) (b:Nat):Prop:=b<c.w.heap.size∧¬c.own b∧¬c.no b
def Iv (w:World) (b o:Nat) (vs:List Value):Prop:=∀k v,vs[k]?=some v→w.cell? ⟨b,o+k,none⟩=some v
mutual
inductive Bo (c:Cx):AV→Value→Prop
 |Es (v:Value):Bo c .Es v
 |sc (v:Value) (h:Nx v=true):Bo c (.sc v) v
 |agg {cs:List AV} {vs:List Value} (h:Bm c cs vs):Bo c (.agg cs) (.agg vs.toArray)
 |Bn {cs:List AV} {vs:List Value} (h:Bm c cs vs):Bo c (.Bn cs) (.tuple vs.toArray)
 |Lb:Bo c .Lb (.pointer none)
 |ptr {id:Nat} (h:c.al id) (off:Nat):Bo c (.ptr id off) (.pointer (some ⟨c.f id,off,none⟩))
 |Cq {b o:Nat} {cs:List AV} {vs:List Value} (hb:c.Bx b) (h:Bm c cs vs) (hc:Iv c.w b o vs) (off:Nat):Bo c (.Cq cs off) (.pointer (some ⟨b,o+off,none⟩))
 |Bg:Bo c .Bg (.slice none 0 0)
 |Gd (a:Option Addr) (cap:Nat) (ex:Bool) (he:ex=true→cap=0) (hm:cap≤maxLen) (hn:a=none→cap=0):Bo c (.Ec 0 [] ex) (.slice a 0 cap)
 |Ec {b o n:Nat} {cs:List AV} {vs:List Value} {cap:Nat} {ex:Bool} (hb:c.Bx b) (h:Bm c cs vs) (hc:Iv c.w b o vs) (hn:n≤cap) (he:ex=true→cap=n) (hm:cap≤maxLen):Bo c (.Ec n cs ex) (.slice (some ⟨b,o,none⟩) n cap)
 |sl {id off esz n cap cap':Nat} {ex:Bool} {arr:Array Value} {T:TypeId} (h:c.al id) (hb:c.w.heap[c.f id]?=some (.cells arr T)) (hs:off+cap'*esz≤arr.size) (hn:n≤cap) (hc:cap≤cap') (he:ex=true→cap'=cap) (hm:cap'≤maxLen):Bo c (.sl id off esz n cap ex) (.slice (some ⟨c.f id,off,none⟩) n cap')
 |fn (f:FuncId) {cs:List AV} {vs:List Value} (h:Bm c cs vs):Bo c (.fn f cs) (.func (.func f) #[] vs.toArray)
 |Qe:Bo c (.w8 true) .nilIface
 |Tt (u:TypeId) (v:Value):Bo c (.w8 false) (.iface u v)
inductive Bm (c:Cx):List AV→List Value→Prop
 |nil:Bm c [] []
 |cons {x:AV} {v:Value} {xs:List AV} {vs:List Value} (h:Bo c x v) (t:Bm c xs vs):Bm c (x::xs) (v::vs)
end
def dr (w:World):Nat:=bif lax then 0 else w.drawn
theorem bB {w w':World} (h:w.drawn≤w'.drawn):dr w≤dr w':=by unfold dr;cases lax<;>simp [h]
theorem Ado (hx:lax=false) {w w':World} (h:dr w≤dr w'):w.drawn≤w'.drawn:=by unfold dr at h;rw [hx] at h;exact h
structure Step (c c':Cx):Prop where
 os:c'.w.os=c.w.os
 tape:c'.w.tape=c.w.tape
 output:c'.w.output=c.w.output
 size:c.w.heap.size≤c'.w.heap.size
 By:∀b,b<c.w.heap.size→¬c.own b→c'.w.heap[b]?=c.w.heap[b]?
 own:∀b,b<c.w.heap.size→c'.own b→c.own b
 f:∀id,c.al id→c'.f id=c.f id
 al:∀id,c.al id→c'.al id
 no:∀b,c'.no b↔c.no b
 Xm:∀(b:Nat) (arr:Array Value) (T:TypeId),c.w.heap[b]?=some (.cells arr T)→∃arr':Array Value,c'.w.heap[b]?=some (.cells arr' T)∧arr'.size=arr.size
 drawn:dr c.w≤dr c'.w
theorem Step.refl (c:Cx):Step c c:=⟨rfl,rfl,rfl,Nat.le_refl _,fun _ _ _=>rfl,fun _ _ h=>h,fun _ _=>rfl,fun _ h=>h,fun _=>Iff.rfl,fun b arr T h=>⟨arr,h,rfl⟩,Nat.le_refl _⟩
theorem Step.trans {a b c:Cx} (h:Step a b) (k:Step b c):Step a c where
 os:=k.os.trans h.os
 tape:=k.tape.trans h.tape
 output:=k.output.trans h.output
 size:=Nat.le_trans h.size k.size
 By:=fun x hx hn=>(k.By x (Nat.lt_of_lt_of_le hx h.size) (fun ho=>hn (h.own x hx ho))).trans (h.By x hx hn)
 own:=fun x hx ho=>h.own x hx (k.own x (Nat.lt_of_lt_of_le hx h.size) ho)
 f:=fun id hi=>(k.f id (h.al id hi)).trans (h.f id hi)
 al:=fun id hi=>k.al id (h.al id hi)
 no:=fun b=>(k.no b).trans (h.no b)
 Xm:=fun b arr T hb=>by
  obtain ⟨a1,h1,s1⟩:=h.Xm b arr T hb
  obtain ⟨a2,h2,s2⟩:=k.Xm b a1 T h1
  exact ⟨a2,h2,s2.trans s1⟩
 drawn:=Nat.le_trans h.drawn k.drawn
theorem Step.Bx {c c':Cx} (h:Step c c') {b:Nat} (hb:c.Bx b):c'.Bx b:=⟨Nat.lt_of_lt_of_le hb.1 h.size,fun ho=>hb.2.1 (h.own b hb.1 ho),fun hn=>hb.2.2 ((h.no b).1 hn)⟩
theorem Step.mA {c c':Cx} (h:Step c c') {b o:Nat} {vs:List Value} (hb:c.Bx b) (hc:Iv c.w b o vs):Iv c'.w b o vs:=by
 intro k v hv
 have:=hc k v hv
 unfold World.cell? at this ⊢
 rw [h.By b hb.1 hb.2.1];exact this
mutual
theorem Bo.step {c c':Cx} (s:Step c c') {x:AV} {v:Value}:Bo c x v→Bo c' x v
 |.Es v=> .Es v
 |.sc v h=> .sc v h
 |.agg h=> .agg (Bm.step s h)
 |.Bn h=> .Bn (Bm.step s h)
 |.Lb=> .Lb
 |.ptr (id:=id) h off=>s.f id h ▸ Bo.ptr (s.al id h) off
 |.Cq hb h hc off=> .Cq (s.Bx hb) (Bm.step s h) (s.mA hb hc) off
 |.Bg=> .Bg
 |.Gd a cap ex he hm hn=> .Gd a cap ex he hm hn
 |.Ec hb h hc hn he hm=> .Ec (s.Bx hb) (Bm.step s h) (s.mA hb hc) hn he hm
 |.sl (id:=id) (off:=off) (arr:=arr) (T:=T) h hb hs hn hc he hm=>by
  obtain ⟨a',h',hz⟩:=s.Xm _ arr T hb
  rw [← s.f id h]
  exact .sl (s.al id h) (by rw [s.f id h];exact h') (by rw [hz];exact hs) hn hc he hm
 |.fn f h=> .fn f (Bm.step s h)
 |.Qe=> .Qe
 |.Tt u v=> .Tt u v
theorem Bm.step {c c':Cx} (s:Step c c') {xs:List AV} {vs:List Value}:Bm c xs vs→Bm c' xs vs
 |.nil=> .nil
 |.cons h t=> .cons (Bo.step s h) (Bm.step s t)
end
theorem Bm.length {c:Cx} {xs:List AV} {vs:List Value} (h:Bm c xs vs):xs.length=vs.length:=by
 induction xs generalizing vs with
 |nil=>cases h;rfl
 |cons x xs ih=>cases h with|cons h t=>simp [ih t]
theorem Bm.get {c:Cx} {xs:List AV} {vs:List Value} (h:Bm c xs vs) {k:Nat} {x:AV} (hk:xs[k]?=some x):∃v,vs[k]?=some v∧Bo c x v:=by
 induction xs generalizing vs k with
 |nil=>simp at hk
 |cons y xs ih=>
  cases h with
  |cons h t=>
   cases k with
   |zero=>simp at hk;subst hk;exact ⟨_,rfl,h⟩
   |succ k=>simpa using ih t (by simpa using hk)
theorem Bm.Ag2 {c:Cx} {xs:List AV} {vs:List Value} (hl:xs.length=vs.length) (h:∀(k:Nat) (x:AV) (v:Value),xs[k]?=some x→vs[k]?=some v→Bo c x v):Bm c xs vs:=by
 induction xs generalizing vs with
 |nil=>cases vs with|nil=>exact .nil|cons v vs=>simp at hl
 |cons x xs ih=>
  cases vs with
  |nil=>simp at hl
  |cons v vs=>exact .cons (h 0 x v rfl rfl) (ih (by simpa using hl) fun k y u hy hu=>h (k+1) y u (by simpa using hy) (by simpa using hu))
theorem Bm.append {c:Cx} {xs ys:List AV} {vs us:List Value} (h:Bm c xs vs) (k:Bm c ys us):Bm c (xs++ys) (vs++us):=by
 induction xs generalizing vs with
 |nil=>cases h;exact k
 |cons x xs ih=>cases h with|cons h t=>exact .cons h (ih t)
theorem Bm.take {c:Cx} {xs:List AV} {vs:List Value} (h:Bm c xs vs) (n:Nat):Bm c (xs.take n) (vs.take n):=by
 induction n generalizing xs vs with
 |zero=>simp;exact .nil
 |succ n ih=>
  cases h with
  |nil=>exact .nil
  |cons h t=>exact .cons h (ih t)
theorem Bm.drop {c:Cx} {xs:List AV} {vs:List Value} (h:Bm c xs vs) (n:Nat):Bm c (xs.drop n) (vs.drop n):=by
 induction n generalizing xs vs with
 |zero=>exact h
 |succ n ih=>
  cases h with
  |nil=>exact .nil
  |cons h t=>exact ih t
theorem Bm.set {c:Cx} {xs:List AV} {vs:List Value} (h:Bm c xs vs) (k:Nat) {x:AV} {v:Value} (hx:Bo c x v):Bm c (xs.set k x) (vs.set k v):=by
 induction xs generalizing vs k with
 |nil=>cases h;exact .nil
 |cons y xs ih=>
  cases h with
  |cons h t=>
   cases k with
   |zero=>exact .cons hx t
   |succ k=>exact .cons h (ih t k)
theorem Bm.one {c:Cx} {x:AV} {v:Value} (h:Bo c x v):Bm c [x] [v]:=.cons h .nil
structure Good (B:Nat) (c:Cx):Prop where
 hB:B≤c.w.heap.size
 low:∀id By,c.M id=some By→B≤c.f id∧c.al id
 By:∀id By,c.M id=some By→∃(arr:Array Value) (vs rest:List Value),c.w.heap[c.f id]?=some (.cells arr By.ty)∧arr.toList=vs++rest∧Bm c By.cells vs
 Jg:∀b,c.no b→b<B
 inj:∀id id' By blk',c.M id=some By→c.M id'=some blk'→c.f id=c.f id'→id=id'
theorem E9 {w:World} {b:Nat} {o:Obj} (h:w.heap[b]?=some o):b<w.heap.size:=by
 rcases Nat.lt_or_ge b w.heap.size with h'|h'
 ·exact h'
 ·rw [Array.getElem?_eq_none h'] at h;cases h
end Go.Proofs.YtkdodbfnocdkdaaGreatDoor
set_option linter.unusedVariables false
set_option linter.unusedSimpArgs false
namespace Go.Proofs.YtkdodbfnocdkdaaGreatDoor
def Fl:List (Nat×AV)→Nat→AV
 |[],_=> .Es
 |(j,v)::r,i=>bif Nat.beq j i then v else Fl r i
def wB:List (Nat×AV)→Nat→AV→List (Nat×AV)
 |[],i,v=>[(i,v)]
 |(j,u)::r,i,v=>bif Nat.beq j i then (i,v)::r else (j,u)::wB r i v
def Al:List (Nat×Option Be)→Nat→Option Be
 |[],_=>none
 |(j,v)::r,i=>bif Nat.beq j i then v else Al r i
def wU:List (Nat×Option Be)→Nat→Option Be→List (Nat×Option Be)
 |[],i,v=>[(i,v)]
 |(j,u)::r,i,v=>bif Nat.beq j i then (i,v)::r else (j,u)::wU r i v
def Yh (m:List (Nat×Option Be)):List (Nat×Option Be)→List (Nat×Option Be)
 |[]=>m
 |(i,v)::r=>Yh (wU m i v) r
def U5:Value→Option AV
 |.slice none 0 0=>some .Bg
 |.pointer none=>some .Lb
 |.nilIface=>some (.w8 true)
 |v=>bif Nx v then some (.sc v) else none
def Ls:List Value→Option (List AV)
 |[]=>some []
 |v::vs=>match U5 v,Ls vs with|some x,some xs=>some (x::xs)|_,_=>none
def G0:Value→Option AV
 |.agg cs=>(Ls cs.toList).map .agg
 |.tuple cs=>(Ls cs.toList).map .Bn
 |v=>U5 v
def Oa:AV→Option Value
 |.sc v=>some v
 |.Lb=>some (.pointer none)
 |.Bg=>some (.slice none 0 0)
 |_=>none
def Jx:List AV→Option (List Value)
 |[]=>some []
 |v::vs=>match Oa v,Jx vs with|some x,some xs=>some (x::xs)|_,_=>none
def Qa:AV→Option Value
 |.agg cs=>(Jx cs).map (fun l=> .agg l.toArray)
 |.Bn cs=>(Jx cs).map (fun l=> .tuple l.toArray)
 |x=>Oa x
def Cl:AV→Bool
 |.Es|.agg _|.Bn _=>false
 |_=>true
def C4:AV→Option (List AV)
 |.Es|.Bn _=>none
 |.agg cs=>some cs
 |x=>some [x]
def B5 (P:Program) {α:Type}:Sem α→Option α
 |.pure a=>some a
 |.program k=>B5 P (k P)
 |_=>none
def Df (P:Program) (t:TypeId):Option Nat:=(P.info? t).map (·.size)
def K1 (P:Program) (t:TypeId):Option Nat:=(P.info? t).map (·.bytes)
def Gv (P:Program) (t:TypeId):Option Value:=(P.info? t).bind (·.zero)
def Hh:TypeDesc→Bool
 |.struct _|.array _ _=>true
 |_=>false
def apart (P:Program) (t:TypeId) (cs:List AV) (off:Nat):Option AV:=
 match P.underlying t with
 |none=>none
 |some d=>
  bif Hh d then
   match Df P t with
   |none=>none
   |some n=>bif Nat.ble (off+n) cs.length then some (.agg ((cs.drop off).take n)) else none
  else cs[off]?
def Dh (cells:List AV) (off:Nat) (new:List AV):List AV:=cells.take off++new++cells.drop (off+new.length)
def elemAt (esz:Nat) (cs:List AV) (i:Nat):List AV:=(cs.drop (i*esz)).take esz
abbrev Wr:=List (Nat×Option Be)
abbrev Iy:=Option (AV×Wr)
def D7 (P:Program) (look:Nat→Option Be) (t:TypeId):AV→Iy
 |.ptr id off=>match look id with|some b=>(apart P t b.cells off).map (·,[])|none=>none
 |.Cq cs off=>(apart P t cs off).map (·,[])
 |_=>none
def V3 (P:Program) (look:Nat→Option Be) (t:TypeId) (a x:AV):Iy:=
 match a,C4 x,Df P t with
 |.ptr id off,some cs,some sz=>
  match look id with
  |some b=>bif Nat.beq cs.length sz && Nat.ble (off+cs.length) b.cells.length && cs.all Cl then some (.Es,[(id,some ⟨Dh b.cells off cs,b.ty⟩)]) else none
  |none=>none
 |_,_,_=>none
def jG (P:Program) (t:TypeId) (fi:Nat):AV→Iy
 |.ptr id off=>match P.underlying t with
  |some (.struct fs)=>match fs[fi]? with
   |some fd=>match Df P fd.type with
    |some (k+1)=>some (.ptr id (off+fd.offset),[])
    |_=>none
   |none=>none
  |_=>none
 |.Cq cs off=>match P.underlying t with
  |some (.struct fs)=>match fs[fi]? with
   |some fd=>match Df P fd.type with
    |some (k+1)=>some (.Cq cs (off+fd.offset),[])
    |_=>none
   |none=>none
  |_=>none
 |_=>none
def Pj (P:Program) (t:TypeId) (x i:AV):Iy:=
 match i with
 |.sc (.int _ z)=>
  match P.underlying t with
  |some (.slice e)=>match Df P e with
   |some sz=>match x with
    |.sl id off esz n cap ex=>bif decide (0≤z) && decide (z<(n:Int)) then some (.ptr id (off+z.toNat*sz),[]) else none
    |.Ec n cs ex=>bif decide (0≤z) && decide (z<(n:Int)) then some (.Cq (elemAt sz cs z.toNat) 0,[]) else none
    |_=>none
   |none=>none
  |some (.array len e)=>match Df P e with
   |some sz=>match x with
    |.ptr id off=>bif decide (0≤z) && decide (z<(len:Int)) then some (.ptr id (off+z.toNat*sz),[]) else none
    |.Cq cs off=>bif decide (0≤z) && decide (z<(len:Int)) then some (.Cq cs (off+z.toNat*sz),[]) else none
    |_=>none
   |none=>none
  |_=>none
 |_=>none
def Y9 (P:Program) (t:TypeId) (fi:Nat):AV→Iy
 |.agg cs=>match P.underlying t with
  |some (.struct fs)=>match fs[fi]? with
   |some fd=>(apart P fd.type cs fd.offset).map (·,[])
   |none=>none
  |_=>none
 |_=>none
def Ra (P:Program) (t:TypeId) (x i:AV):Iy:=
 match x,i with
 |.agg cs,.sc (.int _ z)=>match P.underlying t with
  |some (.array len e)=>match Df P e with
   |some sz=>bif decide (0≤z) && decide (z<(len:Int)) then (apart P e cs (z.toNat*sz)).map (·,[]) else none
   |none=>none
  |_=>none
 |_,_=>none
def Kl (place:Nat→Option (Nat×Nat)) (cells:List AV):List (Nat×AV)→Option (List AV)
 |[]=>some cells
 |(i,v)::rest=>
  match place i,C4 v with
  |some (off,size),some cs=>bif Nat.beq cs.length size && Nat.ble (off+size) cells.length then Kl place (Dh cells off cs) rest else none
  |_,_=>none
def H9 (ρ:Operand→Option AV):List (Nat×Operand)→Option (List (Nat×AV))
 |[]=>some []
 |(i,x)::r=>match ρ x,H9 ρ r with|some v,some l=>some ((i,v)::l)|_,_=>none
def opts (ρ:Operand→Option AV):List Operand→Option (List AV)
 |[]=>some []
 |x::r=>match ρ x,opts ρ r with|some v,some l=>some (v::l)|_,_=>none
def placesOf (P:Program):List Field→Option (List (Nat×Nat))
 |[]=>some []
 |f::r=>match Df P f.type,placesOf P r with|some n,some l=>some ((f.offset,n)::l)|_,_=>none
def iH (P:Program) (t:TypeId) (parts:List (Nat×AV)):Iy:=
 match (Gv P t).bind G0 with
 |some (.agg zs)=>match P.underlying t with
  |some (.struct fs)=>match placesOf P fs.toList with
   |some pl=>(Kl (fun i=>pl[i]?) zs parts).map (fun cs=>(.agg cs,[]))
   |none=>none
  |some (.array _ e)=>match Df P e with
   |some sz=>(Kl (fun i=>some (i*sz,sz)) zs parts).map (fun cs=>(.agg cs,[]))
   |none=>none
  |_=>none
 |_=>none
def rep {α:Type} (zs:List α):Nat→List α
 |0=>[]
 |n+1=>zs++rep zs n
def jL:Value→Option (List AV)
 |.nilFunc=>some [.Es]
 |z=>(G0 z).bind C4
def Nb (P:Program) (n:Nat) (t:TypeId) (len:Nat) (parts:List (Nat×AV)):Iy:=
 match P.underlying t with
 |some (.slice e)=>match Df P e,(Gv P e).bind jL with
  |some sz,some zs=>bif Nat.ble (len*sz) 16777216 && Nat.beq zs.length sz && Nat.ble 1 sz then
    match Kl (fun i=>some (i*sz,sz)) (rep zs len) parts with
    |some cs=>some (.sl n 0 sz len len true,[(n,some ⟨cs,e⟩)])
    |none=>none
   else none
  |_,_=>none
 |_=>none
def Pt (P:Program) (n:Nat) (t:TypeId) (l c:AV):Iy:=
 match l,c with
 |.sc (.int .i64 x),.sc (.int .i64 y)=>match P.underlying t with
  |some (.slice e)=>match Df P e,K1 P e,(Gv P e).bind (fun z=>(G0 z).bind C4) with
   |some sz,some by_,some zs=>bif decide (0≤x) && decide (x≤y) && decide (y*(by_:Int)≤140737488355328) && decide (y≤4611686018427387904) && Nat.beq zs.length sz && Nat.ble 1 sz then
     some (.sl n 0 sz x.toNat y.toNat true,[(n,some ⟨rep zs y.toNat,e⟩)])
    else none
   |_,_,_=>none
  |_=>none
 |_,_=>none
def cellsOf (look:Nat→Option Be) (sz:Nat):AV→Option (Nat×List AV)
 |.Bg=>some (0,[])
 |.Ec n cs _=>bif Nat.beq cs.length (n*sz) then some (n,cs) else none
 |.sl id off esz n _ _=>match look id with
  |some b=>bif Nat.ble (off+n*sz) b.cells.length && Nat.beq esz sz then some (n,(b.cells.drop off).take (n*sz)) else none
  |none=>none
 |_=>none
def M8 (P:Program) (look:Nat→Option Be) (n:Nat) (e:TypeId) (s x:AV):Iy:=
 match x with
 |.sc (.int _ z)=>match Df P e,K1 P e,(Gv P e).bind (fun z=>(G0 z).bind C4) with
  |some sz,some by_,some zs=>match s with
   |.Bg=>
    bif decide (0<z) && Nat.ble (z.toNat*by_) 281474976710656 && Nat.ble z.toNat 4611686018427387904 && Nat.beq zs.length sz && Nat.ble 1 sz then
     some (.sl n 0 sz z.toNat z.toNat false,[(n,some ⟨rep zs z.toNat,e⟩)])
    else none
   |.sl id off esz q cap true=>match cellsOf look sz (.sl id off esz q cap true) with
    |some (k,old)=>
     bif decide (0<z) && Nat.ble (cap+1) (k+z.toNat) && Nat.ble ((k+z.toNat)*by_) 140737488355328 && Nat.ble (k+z.toNat) 4611686018427387904 && Nat.beq zs.length sz && Nat.ble 1 sz then
      some (.sl n 0 sz (k+z.toNat) (k+z.toNat) false,[(n,some ⟨old++rep zs z.toNat,e⟩)])
     else none
    |none=>none
   |_=>none
  |_,_,_=>none
 |_=>none
def cW (s:AV) (q:Nat):Bool:=match s with|.sl _ _ _ _ cap _=>Nat.ble q cap|_=>false
def Kh (P:Program) (look:Nat→Option Be) (n:Nat) (t tx:TypeId) (s x:AV):Iy:=
 match P.underlying t,P.underlying tx with
 |some (.slice e),some (.slice _)=>match Df P e,K1 P e,(Gv P e).bind (fun z=>(G0 z).bind C4) with
  |some sz,some by_,some zs=>match cellsOf look sz x with
   |some (m,xs)=>
    bif Nat.beq m 0 then
     match s with
     |.Bg|.Ec ..|.sl ..=>some (s,[])
     |_=>none
    else
    match cellsOf look sz s with
    |some (k,old)=>
     bif (Nat.ble ((k+m)*by_) 140737488355328||cW s (k+m)) && Nat.ble (k+m) 4611686018427387904 && Nat.beq zs.length sz && Nat.ble 1 sz && xs.all Cl && Nat.beq xs.length (m*sz) && Nat.beq old.length (k*sz) then
      match s with
      |.Bg=>some (.sl n 0 sz (k+m) (k+m) false,[(n,some ⟨old++xs,e⟩)])
      |.Ec _ _ true=>some (.sl n 0 sz (k+m) (k+m) false,[(n,some ⟨old++xs,e⟩)])
      |.sl id off esz _ cap ex=>
       bif Nat.ble (k+m) cap then
        match look id with
        |some b=>bif Nat.ble (off+(k+m)*sz) b.cells.length then some (.sl id off sz (k+m) cap ex,[(id,some ⟨Dh b.cells (off+k*sz) xs,b.ty⟩)]) else none
        |none=>none
       else bif ex then some (.sl n 0 sz (k+m) (k+m) false,[(n,some ⟨old++xs,e⟩)])
       else bif Nat.beq off 0 && (match look id with|some b=>Nat.beq b.ty e|none=>false) then some (.sl n 0 sz (k+m) (k+m) false,[(n,some ⟨old++xs,e⟩),(id,none)])
       else none
      |_=>none
     else none
    |none=>none
   |none=>none
  |_,_,_=>none
 |some (.slice e),some (.int _)=>M8 P look n e s x
 |_,_=>none
def Aj6 (P:Program) (t:TypeId) (x:AV):Iy:=
 match P.underlying t,x with
 |some (.slice _),.Bg=>some (.sc (.int .i64 0),[])
 |some (.slice _),.Ec n _ _=>some (.sc (.int .i64 n),[])
 |some (.slice _),.sl _ _ _ n _ _=>some (.sc (.int .i64 n),[])
 |some .string,.sc (.string s)=>some (.sc (.int .i64 s.size),[])
 |some (.array n _),_=>some (.sc (.int .i64 n),[])
 |_,_=>none
def Aa2 (P:Program) (t:TypeId) (x:AV):Iy:=
 match P.underlying t,x with
 |some (.slice _),.sl _ _ _ _ cap true=>some (.sc (.int .i64 cap),[])
 |some (.slice _),.Bg=>some (.sc (.int .i64 0),[])
 |_,_=>none
def K2 (dflt:Nat):Option AV→Option Nat
 |none=>some dflt
 |some (.sc (.int _ z))=>bif decide (0≤z) then some z.toNat else none
 |_=>none
def Vf (P:Program) (look:Nat→Option Be) (t:TypeId) (x:AV) (lo hi mx:Option AV):Iy:=
 match P.underlying t with
 |some (.slice e)=>match Df P e with
  |some sz=>match x with
   |.Bg=>match K2 0 lo,K2 0 hi,K2 0 mx with
    |some 0,some 0,some 0=>bif mx.isSome && hi.isNone then none else some (.Bg,[])
    |_,_,_=>none
   |.Ec n cs ex=>match K2 0 lo,K2 n hi,K2 n mx with
    |some l,some h,some m=>bif Nat.ble l h && Nat.ble h m && Nat.ble m n && Nat.beq cs.length (n*sz) && !(mx.isSome && hi.isNone) then
      some (.Ec (h-l) ((cs.drop (l*sz)).take ((h-l)*sz)) (mx.isSome && Nat.beq h m),[]) else none
    |_,_,_=>none
   |.sl id off esz n cap ex=>match K2 0 lo,K2 n hi,K2 cap mx with
    |some l,some h,some m=>bif Nat.ble l h && Nat.ble h m && Nat.ble m cap && Nat.beq esz sz && !(mx.isSome && hi.isNone) then
      bif Nat.beq l m then some (.Ec 0 [] (ex||mx.isSome),[]) else some (.sl id (off+l*sz) sz (h-l) (m-l) (ex||mx.isSome),[])
     else none
    |_,_,_=>none
   |_=>none
  |none=>none
 |some (.array len e)=>match Df P e with
  |some sz=>match x with
   |.ptr id off=>match look id,K2 0 lo,K2 len hi,K2 len mx with
    |some b,some l,some h,some m=>bif Nat.ble l h && Nat.ble h m && Nat.ble m len && Nat.ble (off+len*sz) b.cells.length && Nat.ble len 4611686018427387904 && !(mx.isSome && hi.isNone) then
      bif Nat.beq l m then some (.Ec 0 [] true,[]) else some (.sl id (off+l*sz) sz (h-l) (m-l) true,[])
     else none
    |_,_,_,_=>none
   |.Cq cs off=>match K2 0 lo,K2 len hi,K2 len mx with
    |some l,some h,some m=>bif Nat.ble l h && Nat.ble h m && Nat.ble m len && Nat.ble (off+len*sz) cs.length && Nat.ble len 4611686018427387904 && !(mx.isSome && hi.isNone) then
      bif Nat.beq l m then some (.Ec 0 [] true,[]) else some (.Ec (h-l) ((cs.drop (off+l*sz)).take ((h-l)*sz)) (Nat.beq h m),[])
     else none
    |_,_,_=>none
   |_=>none
  |none=>none
 |_=>none
def bT (P:Program) (look:Nat→Option Be) (t tx:TypeId) (d s:AV):Iy:=
 match P.underlying t with
 |some (.slice e)=>match Df P e with
  |some sz=>match cellsOf look sz s with
   |some (m,xs)=>match d with
    |.sl id off esz n cap ex=>match look id with
     |some b=>bif Nat.ble (off+n*sz) b.cells.length && (xs.take (Nat.min m n*sz)).all Cl && Nat.beq esz sz then
       some (.sc (.int .i64 ((Nat.min m n:Nat):Int)),[(id,some ⟨Dh b.cells off (xs.take (Nat.min m n*sz)),b.ty⟩)]) else none
     |none=>none
    |_=>none
   |none=>none
  |none=>none
 |_=>none
def Uo (P:Program) (look:Nat→Option Be) (t:TypeId) (d:AV):Iy:=
 match P.underlying t with
 |some (.slice e)=>match d with
  |.Bg=>some (.Bn [],[])
  |.Ec 0 _ _=>some (.Bn [],[])
  |.sl id off esz 0 cap ex=>some (.Bn [],[])
  |.sl id off esz (n+1) cap ex=>match Df P e,(Gv P e).bind (fun z=>(G0 z).bind C4),look id with
   |some sz,some zs,some b=>bif Nat.ble (off+(n+1)*sz) b.cells.length && zs.all Cl && Nat.beq esz sz && Nat.beq zs.length sz && Nat.ble 1 sz then
     some (.Bn [],[(id,some ⟨Dh b.cells off (rep zs (n+1)),b.ty⟩)]) else none
   |_,_,_=>none
  |_=>none
 |_=>none
def Qc:AV→Option (Bool×Bool)
 |.Bg=>some (true,true)
 |.Lb=>some (false,true)
 |.Ec _ (_::_) _|.sl ..=>some (true,false)
 |.ptr ..|.Cq ..=>some (false,false)
 |_=>none
def W2 (P:Program) (t:TypeId) (s s':Bool):Bool:=
 match P.underlying t with
 |some (.slice _)=>s && s'
 |some (.pointer _)=> !s && !s'
 |_=>false
def L6 (op:BinOp) (x y:Value):Option Value:=
 match x,y with
 |.int k a,.int k' b=>if k=k' then
   match op with
   |.add=>some (.int k (k.wrap (a+b)))
   |.sub=>some (.int k (k.wrap (a-b)))
   |.mul=>some (.int k (k.wrap (a*b)))
   |.quo=>bif decide (b=0) then none else some (.int k (k.wrap (a.tdiv b)))
   |.rem=>bif decide (b=0) then none else some (.int k (a.tmod b))
   |.eql=>some (.bool (a==b))
   |.neq=>some (.bool (a !=b))
   |.lss=>some (.bool (decide (a<b)))
   |.leq=>some (.bool (decide (a≤b)))
   |.gtr=>some (.bool (decide (a>b)))
   |.geq=>some (.bool (decide (a≥b)))
   |_=>none
  else none
 |.string a,.string b=>
  match op with
  |.eql=>some (.bool (a.toList==b.toList))
  |.neq=>some (.bool (!(a.toList==b.toList)))
  |.lss=>some (.bool (Op.bytesLess a.toList b.toList))
  |.leq=>some (.bool (Op.bytesLess a.toList b.toList||a.toList==b.toList))
  |.gtr=>some (.bool (!(Op.bytesLess a.toList b.toList||a.toList==b.toList)))
  |.geq=>some (.bool (!(Op.bytesLess a.toList b.toList)))
  |_=>none
 |_,_=>none
def Km (ρ:Operand→Option AV) (x:Operand):Option Value:=(ρ x).bind Qa
def Rj (ρ:Operand→Option AV) (l:List Operand):Bool:=l.all fun x=>(Km ρ x).isSome
def Lp:Op→Bool
 |.select ..=>false
 |_=>true
def Hu (P:Program) (ρ:Operand→Option AV) (o:Oper):Iy:=
 bif Lp o.op && Rj ρ o.op.operands.toList then
  match B5 P (execOp (fun x=>(Km ρ x).getD undef) o) with
  |some (.value v)=>(G0 v).map (·,[])
  |_=>none
 else none
def nR (P:Program) (ρ:Operand→Option AV) (o:Oper) (op:BinOp) (t:TypeId) (x y:Operand):Iy:=
 match ρ x,ρ y with
 |some (.sc a),some (.sc b)=>match L6 op a b with
  |some v=>some (.sc v,[])
  |none=>Hu P ρ o
 |some a,some b=>match op,Qc a,Qc b with
  |.eql,some (s,p),some (s',q)=>bif (p||q) && W2 P t s s' then some (.sc (.bool (p && q)),[]) else none
  |.neq,some (s,p),some (s',q)=>bif (p||q) && W2 P t s s' then some (.sc (.bool (!(p && q))),[]) else none
  |_,_,_=>Hu P ρ o
 |_,_=>none
def Aks (P:Program) (op:BinOp) (t:TypeId):AV→Iy
 |.w8 p=>match P.underlying t,op with
  |some (.interface _),.eql=>some (.sc (.bool p),[])
  |some (.interface _),.neq=>some (.sc (.bool (!p)),[])
  |_,_=>none
 |_=>none
def byteCells (s:ByteArray):List AV:=s.data.toList.map fun b=> .sc (.int .u8 b.toNat)
def byteOf:AV→Option UInt8
 |.sc (.int .u8 z)=>bif decide (0≤z) && decide (z<256) then some (UInt8.ofNat z.toNat) else none
 |_=>none
def bytesOf:List AV→Option (List UInt8)
 |[]=>some []
 |x::xs=>match byteOf x,bytesOf xs with|some b,some l=>some (b::l)|_,_=>none
def Tj (P:Program) (ρ:Operand→Option AV) (look:Nat→Option Be) (o:Oper) (src dst:TypeId) (x:Operand):Iy:=
 match ρ x,P.underlying src,P.underlying dst with
 |some (.sc (.string s)),some .string,some (.slice e)=>match P.underlying e with
  |some (.int .u8)=>bif Nat.ble s.size 4611686018427387904 then some (.Ec s.size (byteCells s) false,[]) else none
  |_=>none
 |some y,some (.slice e),some .string=>match P.underlying e with
  |some (.int .u8)=>match cellsOf look 1 y with
   |some (n,cs)=>match bytesOf cs with
    |some l=>some (.sc (.string ⟨l.toArray⟩),[])
    |none=>none
   |none=>none
  |_=>none
 |_,_,_=>Hu P ρ o
def Pz (P:Program) (ρ:Operand→Option AV) (look:Nat→Option Be) (n:Nat) (o:Oper):Iy:=
 match o.op with
 |.move x|.assign x=>(ρ x).map (·,[])
 |.pick c a b=>match ρ c with
  |some (.sc (.bool t))=>(bif t then ρ a else ρ b).map (·,[])
  |_=>none
 |.alloc t=>match (Gv P t).bind (fun z=>(G0 z).bind C4) with
  |some cs=>some (.ptr n 0,[(n,some ⟨cs,t⟩)])
  |none=>none
 |.box t x=>match (ρ x).bind C4 with
  |some cs=>some (.ptr n 0,[(n,some ⟨cs,t⟩)])
  |none=>none
 |.load t a=>(ρ a).bind (D7 P look t)
 |.store t a x=>match ρ a,ρ x with
  |some a,some x=>V3 P look t a x
  |_,_=>none
 |.fieldAddr t x fi=>(ρ x).bind (jG P t fi)
 |.indexAddr t x i=>match ρ x,ρ i with
  |some x,some i=>Pj P t x i
  |_,_=>none
 |.field t x fi=>(ρ x).bind (Y9 P t fi)
 |.index t x i=>match ρ x,ρ i with
  |some (.agg cs),some i=>Ra P t (.agg cs) i
  |_,_=>Hu P ρ o
 |.extract x i=>match ρ x with
  |some (.Bn vs)=>(vs[i]?).map (·,[])
  |_=>none
 |.build t parts=>(H9 ρ parts.toList).bind (iH P t)
 |.buildSlice t len parts=>(H9 ρ parts.toList).bind (Nb P n t len)
 |.makeSlice t l c=>match ρ l,ρ c with
  |some l,some c=>Pt P n t l c
  |_,_=>none
 |.slice t x lo hi mx=>match ρ x with
  |some (.sc _)=>Hu P ρ o
  |some x=>match lo.mapM ρ,hi.mapM ρ,mx.mapM ρ with
   |some lo,some hi,some mx=>Vf P look t x lo hi mx
   |_,_,_=>none
  |none=>none
 |.nilCheck x=>match ρ x with
  |some (.ptr id off)=>some (.ptr id off,[])
  |some (.Cq cs off)=>some (.Cq cs off,[])
  |some (.fn f cs)=>some (.fn f cs,[])
  |_=>none
 |.makeFunc (.func f) first caps=>match first.toList with
  |[]=>(opts ρ caps.toList).map (fun l=>(.fn f l,[]))
  |_=>none
 |.binOp op t x (.const .nilIface) _=>match ρ x,ρ (.const .nilIface) with
  |some y,some (.w8 true)=>Aks P op t y
  |_,_=>none
 |.binOp op t x y _=>nR P ρ o op t x y
 |.call {callee:=.builtin .append,args,argTypes}=>match args.toList,argTypes.toList with
  |[s,x],[t,tx]=>match ρ s,ρ x with
   |some s,some x=>Kh P look n t tx s x
   |_,_=>none
  |_,_=>none
 |.call {callee:=.builtin .len,args,argTypes}=>match args.toList,argTypes.toList with
  |[x],[t]=>(ρ x).bind (Aj6 P t)
  |_,_=>none
 |.call {callee:=.builtin .cap,args,argTypes}=>match args.toList,argTypes.toList with
  |[x],[t]=>(ρ x).bind (Aa2 P t)
  |_,_=>none
 |.call {callee:=.builtin .copy,args,argTypes}=>match args.toList,argTypes.toList with
  |[d,s],[t,tx]=>match ρ d,ρ s with
   |some d,some s=>bT P look t tx d s
   |_,_=>none
  |_,_=>none
 |.call {callee:=.builtin .clear,args,argTypes}=>match args.toList,argTypes.toList with
  |[d],[t]=>(ρ d).bind (Uo P look t)
  |_,_=>none
 |.call {callee:=.builtin .max,..}=>Hu P ρ o
 |.call {callee:=.builtin .min,..}=>Hu P ρ o
 |.unOp ..=>Hu P ρ o
 |.convert src dst x=>Tj P ρ look o src dst x
 |_=>none
def A3:AV→List Nat
 |.ptr id _=>[id]
 |.sl id ..=>[id]
 |_=>[]
def tC (ρ:Operand→Option AV) (o:Oper):List Nat:=o.op.operands.toList.flatMap fun x=>match ρ x with|some v=>A3 v|none=>[]
end Go.Proofs.YtkdodbfnocdkdaaGreatDoor
set_option linter.unusedVariables false
set_option linter.unusedSimpArgs false
namespace Go.Proofs.YtkdodbfnocdkdaaGreatDoor
mutual
def clean:AV→Bool
 |.Es=>true
 |.sc _=>true
 |.agg cs=>Bk cs
 |.Bn cs=>Bk cs
 |.Lb=>true
 |.ptr _ _=>false
 |.Cq cs _=>Bk cs
 |.Bg=>true
 |.Ec _ cs _=>Bk cs
 |.sl _ _ _ _ _ _=>false
 |.fn _ cs=>Bk cs
 |.w8 _=>true
def Bk:List AV→Bool
 |[]=>true
 |x::xs=>clean x && Bk xs
end
structure St where
 e:List (Nat×AV)
 m:List (Nat×Option Be)
 nx:Nat
structure Kq where
 pm:FuncId→Bool
 gl:Nat→Option (List AV)
def Jc (gl:Nat→Option (List AV)) (e:List (Nat×AV)):Operand→Option AV
 |.tmp t=>some (Fl e t)
 |.const v=>G0 v
 |.func f=>some (.fn f [])
 |.global g=>(gl g).map fun cs=> .Cq cs 0
def Ir (ops:Array Oper) (e:List (Nat×AV)) (o:Oper):Option Bool:=
 match o.guard with
 |none=>some true
 |some (j,want)=>match (ops[j]?).bind (·.dst) with
  |some d=>match Fl e d with
   |.sc (.bool b)=>some (b==want)
   |.Bn _=>some false
   |_=>none
  |none=>none
abbrev Fg:=FuncId→List AV→List (Nat×Option Be)→Nat→Option (AV×List (Nat×Option Be)×Nat)
def J0 (f:AV→Option AV):List AV→Option (List AV)
 |[]=>some []
 |x::xs=>match f x,J0 f xs with|some y,some ys=>some (y::ys)|_,_=>none
def freeze (look:Nat→Option Be):Nat→AV→Option AV
 |0,_=>none
 |k+1,.sl id off esz n cap ex=>match look id with
  |some b=>bif Nat.ble (off+n*esz) b.cells.length then (J0 (freeze look k) ((b.cells.drop off).take (n*esz))).map (fun l=> .Ec n l false) else none
  |none=>none
 |k+1,.agg cs=>(J0 (freeze look k) cs).map .agg
 |k+1,.Bn cs=>(J0 (freeze look k) cs).map .Bn
 |k+1,x=>bif clean x then some x else none
def snap (look:Nat→Option Be):Nat→AV→Option AV
 |0,_=>none
 |k+1,.sl id off esz n cap ex=>match look id with
  |some b=>bif Nat.ble (off+n*esz) b.cells.length then (J0 (snap look k) ((b.cells.drop off).take (n*esz))).map (fun l=> .Ec n l false) else none
  |none=>none
 |k+1,.ptr id off=>match look id with
  |some b=>(J0 (snap look k) b.cells).map (fun l=> .Cq l off)
  |none=>none
 |k+1,.agg cs=>(J0 (snap look k) cs).map .agg
 |k+1,.Bn cs=>(J0 (snap look k) cs).map .Bn
 |k+1,.fn f cs=>(J0 (snap look k) cs).map (.fn f)
 |k+1,x=>bif clean x then some x else none
def reach (look:Nat→Option Be):Nat→AV→List Nat
 |0,_=>[]
 |k+1,.ptr id _=>id::(match look id with|some b=>b.cells.flatMap (reach look k)|none=>[])
 |k+1,.sl id _ _ _ _ _=>id::(match look id with|some b=>b.cells.flatMap (reach look k)|none=>[])
 |k+1,.agg cs=>cs.flatMap (reach look k)
 |k+1,.Bn cs=>cs.flatMap (reach look k)
 |k+1,.fn _ cs=>cs.flatMap (reach look k)
 |_+1,_=>[]
def K5:AV→Bool
 |.sc _=>true
 |_=>false
def uN:AV→Bool
 |.sc _=>true
 |.Bg=>true
 |.Ec 0 [] _=>true
 |.agg cs=>cs.all K5
 |_=>false
def Hy:AV→Bool
 |.sc _=>true
 |.agg cs=>cs.all K5
 |.Bn cs=>cs.all uN
 |_=>false
def Gz (cf:Fg) (look:Nat→Option Be) (g:FuncId) (args:List AV):Iy:=
 bif Bk args then
  match cf g args [] 0 with
  |some (v,m,_)=>match freeze (Al m) 6 v with
   |some v'=>bif clean v' then some (v',[]) else none
   |none=>none
  |none=>none
 else
  match J0 (snap look 6) args with
  |some ar=>match cf g ar [] 0 with
   |some (v,_,_)=>bif Hy v then some (v,[]) else none
   |none=>none
  |none=>none
def madeOf (n:Nat) (m:List (Nat×Option Be)):AV→Iy
 |.sl id off esz k cap ex=>match Al m id with
  |some b=>bif Bk b.cells then some (.sl n off esz k cap ex,[(n,some b)]) else none
  |none=>none
 |_=>none
def No (cf:Fg) (look:Nat→Option Be) (n:Nat) (g:FuncId) (args:List AV):Iy:=
 bif Bk args then
  match cf g args [] 0 with
  |some (v,m,_)=>madeOf n m v
  |none=>none
 else
  match J0 (snap look 6) args with
  |some ar=>match cf g ar [] 0 with
   |some (v,m,_)=>match madeOf n m v with
    |some (v',[(i,some b)])=>bif b.cells.all K5 then some (v',[(i,some b)]) else none
    |_=>none
   |none=>none
  |none=>none
def Abn:List AV→Option (List Value)
 |[]=>some []
 |.sc v::r=>match Abn r with
  |some l=>some (v::l)
  |none=>none
 |_=>none
def T3:List (String×(Array Value→Sem Value)):=[("math.Float64bits",Extern.MathFloatBits.float64bits),("math.Float64frombits",Extern.MathFloatBits.float64frombits),("math.archFloor",Extern.MathFloor.toIntegral "math.archFloor" .down),("internal/bytealg.abigen_runtime_cmpstring",Extern.BytealgCompare.compare),("internal/bytealg.CountString",Extern.BytealgCount.count),("internal/bytealg.IndexByteString",Extern.BytealgIndexByte.indexByte)]
def Ah0 (P:Program) (f:FuncId) (args:List AV):Option AV:=match P.funcs[f]? with
 |some fn=>bif fn.body.isNone && fn.origin== "" then (match T3.lookup fn.name,Abn args with
  |some ex,some vals=>match B5 P (ex vals.toArray) with
   |some u=>bif Nx u then some (.sc u) else none
   |none=>none
  |_,_=>none) else none
 |none=>none
def Yn (P:Program) (K:Kq) (cf:Fg) (dr:Bool) (e:List (Nat×AV)) (look:Nat→Option Be) (n:Nat) (o:Oper):Iy:=
 match o.op with
 |.call {callee:=.value g,args,..}=>match Jc K.gl e g,opts (Jc K.gl e) args.toList with
  |some (.fn g caps),some ar=>match Ah0 P g (ar++caps) with
   |some v=>some (v,[])
   |none=>bif dr then (match (bif K.pm g then none else No cf look n g (ar++caps)) with
    |some r=>some r
    |none=>Gz cf look g (ar++caps)) else bif K.pm g then Gz cf look g (ar++caps) else none
  |_,_=>none
 |_=>Pz P (Jc K.gl e) look n o
def fZ (K:Kq) (cf:Fg) (s:St) (o:Oper):Option (AV×List (Nat×Option Be)×Nat):=
 match o.op with
 |.call {callee:=.value g,args,..}=>match Jc K.gl s.e g,opts (Jc K.gl s.e) args.toList with
  |some (.fn g caps),some ar=>cf g (ar++caps) s.m s.nx
  |_,_=>none
 |_=>none
def Am9 (P:Program) (K:Kq) (cf:Fg) (s:St) (o:Oper):Option (AV×List (Nat×Option Be)×Nat):=
 match Yn P K cf false s.e (Al s.m) s.nx o with
 |some (v,d)=>some (v,Yh s.m d,s.nx+1)
 |none=>fZ K cf s o
def Q8 (nt:Nat) (e:List (Nat×AV)) (dst:Option Nat) (v:AV):Option (List (Nat×AV)):=
 match dst with
 |none=>some e
 |some d=>bif Nat.blt d nt then some (wB e d v) else none
def Yf (P:Program) (K:Kq) (cf:Fg) (nt:Nat) (ops:Array Oper):List Oper→St→Option St
 |[],s=>some s
 |o::r,s=>match Ir ops s.e o with
  |some true=>match Am9 P K cf s o with
   |some (v,m,nx)=>match Q8 nt s.e o.dst v with
    |some e=>Yf P K cf nt ops r ⟨e,m,nx⟩
    |none=>none
   |none=>none
  |some false=>match Q8 nt s.e o.dst (.Bn []) with
   |some e=>Yf P K cf nt ops r ⟨e,s.m,s.nx⟩
   |none=>none
  |none=>none
def Nj (o:Oper) (acc:List Nat):Nat:=o.after.toList.foldl (fun s e=>bif Region.binds .any e then s|||2 ^ e.on|||acc.getD e.on 0 else s) 0
def Gw:List Oper→List Nat→List Nat
 |[],acc=>acc
 |o::r,acc=>Gw r (acc++[Nj o acc])
def cB (ms:List Nat) (i j:Nat):Bool:=(ms.getD j 0).testBit i||(ms.getD i 0).testBit j
def tmpsOf (l:List Operand):List Nat:=l.filterMap fun|.tmp t=>some t|_=>none
def Oq (ops:Array Oper) (o:Oper):List Nat:=tmpsOf o.op.operands.toList++o.dst.toList++(match o.guard with|some (j,_)=>((ops[j]?).bind (·.dst)).toList|none=>[])
def Qj (ops:Array Oper) (ms:List Nat) (l:List (Oper×Nat)) (o:Oper) (i:Nat):Bool:=
 (o.after.toList.all fun e=> !Region.binds .any e||Nat.blt e.on i) && Lp o.op &&
 match o.dst with
 |none=>true
 |some t=>l.all fun q=>Nat.beq i q.2|| !(Oq ops q.1).contains t||cB ms i q.2
def Yu (ops:Array Oper) (ms:List Nat):Bool:=ops.toList.zipIdx.all fun q=>Qj ops ms ops.toList.zipIdx q.1 q.2
structure Rec where
 d:Wr
 ft:List Nat
def Cy (m:List (Nat×Option Be)) (ft:List Nat) (id:Nat):Option Be:=bif ft.contains id then Al m id else none
def Xq (ρ:Operand→Option AV) (o:Oper):List Nat:=
 match o.op with
 |.load ..=>tC ρ o
 |.store ..=>tC ρ o
 |.slice ..=>tC ρ o
 |.convert ..=>tC ρ o
 |.call ..=>tC ρ o
 |_=>[]
def Aaj (K:Kq) (s:St) (o:Oper):List Nat:=
 match o.op with
 |.call {callee:=.value _,..}=>o.op.operands.toList.flatMap fun x=>match Jc K.gl s.e x with
  |some v=>reach (Al s.m) 6 v
  |none=>[]
 |_=>Xq (Jc K.gl s.e) o
def Aqa (P:Program) (K:Kq) (cf:Fg) (s:St) (o:Oper):Iy:=Yn P K cf true s.e (Cy s.m (Aaj K s o)) s.nx o
def Px (P:Program) (K:Kq) (cf:Fg) (nt:Nat) (ops:Array Oper):List Oper→St→List Rec→Option (St×List Rec)
 |[],s,rs=>some (s,rs)
 |o::r,s,rs=>match Ir ops s.e o with
  |some true=>match Aqa P K cf s o with
   |some (v,d)=>match Q8 nt s.e o.dst v with
    |some e=>Px P K cf nt ops r ⟨e,Yh s.m d,s.nx+1⟩ (rs++[⟨d,Aaj K s o⟩])
    |none=>none
   |none=>none
  |some false=>match Q8 nt s.e o.dst (.Bn []) with
   |some e=>Px P K cf nt ops r ⟨e,s.m,s.nx+1⟩ (rs++[⟨[],[]⟩])
   |none=>none
  |none=>none
def xI (a b:Rec):Bool:=a.d.all fun p=> !b.ft.contains p.1 && b.d.all fun q=> !Nat.beq p.1 q.1
def E3 (ms:List Nat) (rs:List Rec):Bool:=
 let l:=rs.zipIdx
 l.all fun p=>p.1.d.isEmpty||l.all fun q=>Nat.beq p.2 q.2||cB ms p.2 q.2||xI p.1 q.1
def Jo (P:Program) (K:Kq) (cf:Fg) (nt:Nat) (ops:Array Oper) (draw:Bool) (s:St):Option St:=
 bif draw then
  let ms:=Gw ops.toList []
  bif Yu ops ms then
   match Px P K cf nt ops ops.toList s [] with
   |some (s',rs)=>bif E3 ms rs then some s' else none
   |none=>none
  else none
 else Yf P K cf nt ops ops.toList s
inductive A1 where
 |normal
 |exit (id:Nat)
 |ret
def iter (f:St→Option (A1×St)):Nat→St→Option (A1×St)
 |0,_=>none
 |k+1,s=>match f s with
  |some (.normal,s')=>iter f k s'
  |r=>r
def Fh (K:Kq) (rg:Array Oper→Bool→St→Option St) (k:Nat):Code→St→Option (A1×St)
 |.skip,s=>some (.normal,s)
 |.region _ ops d,s=>(rg ops d s).map (fun s'=>(.normal,s'))
 |.seq a b,s=>match Fh K rg k a s with
  |some (.normal,s')=>Fh K rg k b s'
  |r=>r
 |.cond c a b,s=>match Jc K.gl s.e c with
  |some (.sc (.bool t))=>bif t then Fh K rg k a s else Fh K rg k b s
  |_=>none
 |.block id b,s=>match Fh K rg k b s with
  |some (.exit j,s')=>some (bif Nat.beq j id then .normal else .exit j,s')
  |r=>r
 |.loop b,s=>iter (Fh K rg k b) k s
 |.exit id,s=>some (.exit id,s)
 |.ret,s=>some (.ret,s)
 |.label _,s=>some (.normal,s)
 |_,_=>none
def Qm (P:Program) (s:St):ResultVar→Option AV
 |.tmp t=>some (Fl s.e t)
 |.cell a t=>(D7 P (Al s.m) t (Fl s.e a)).map (·.1)
def Ih (P:Program) (s:St):List ResultVar→Option (List AV)
 |[]=>some []
 |r::rs=>match Qm P s r,Ih P s rs with|some v,some l=>some (v::l)|_,_=>none
def Fw (P:Program) (fn:Func) (s:St):Option AV:=
 match Ih P s fn.results.toList with
 |some [v]=>some v
 |some l=>some (.Bn l)
 |none=>none
def Eu:List AV→Nat→List (Nat×AV)
 |[],_=>[]
 |a::r,i=>(i,a)::Eu r (i+1)
def Apo (P:Program) (K:Kq):Nat→Fg
 |0,_,_,_,_=>none
 |k+1,f,args,m,nx=>match P.funcs[f]? with
  |some fn=>match fn.body with
   |some c=>bif fn.name== "runtime.NumGoroutine" ||Nat.blt fn.ntmps args.length then none else
     match Fh K (Jo P K (Apo P K k) fn.ntmps) k c ⟨Eu args 0,m,nx⟩ with
     |some (.normal,s)=>(Fw P fn s).map (·,s.m,s.nx)
     |some (.ret,s)=>(Fw P fn s).map (·,s.m,s.nx)
     |_=>none
   |none=>none
  |none=>none
end Go.Proofs.YtkdodbfnocdkdaaGreatDoor
set_option linter.unusedVariables false
set_option linter.unusedSimpArgs false
namespace Go.Proofs.YtkdodbfnocdkdaaGreatDoor
open Go.RowKit
theorem Good.lt {B:Nat} {c:Cx} (g:Good B c) {id:Nat} {By:Be} (h:c.M id=some By):c.f id<c.w.heap.size:=by
 obtain ⟨arr,vs,rest,hb,-⟩:=g.By id By h
 exact E9 hb
def Cx.tick (c:Cx) (n:Nat):Cx:={c with al:=fun id=>c.al id∨id=n}
theorem Ig (c:Cx) (n:Nat):Step c (c.tick n):=⟨rfl,rfl,rfl,Nat.le_refl _,fun _ _ _=>rfl,fun _ _ h=>h,fun _ _=>rfl,fun _ h=> .inl h,fun _=>Iff.rfl,fun b arr T h=>⟨arr,h,rfl⟩,Nat.le_refl _⟩
theorem Oe {B:Nat} {c:Cx} (g:Good B c) (n:Nat):Good B (c.tick n):=
 ⟨g.hB,fun id By h=>⟨(g.low id By h).1,.inl (g.low id By h).2⟩,fun id By h=>by
  obtain ⟨arr,vs,rest,h1,h2,h3⟩:=g.By id By h
  exact ⟨arr,vs,rest,h1,h2,h3.step (Ig c n)⟩,g.Jg,g.inj⟩
def Cx.new (c:Cx) (n:Nat) (arr:Array Value) (T:TypeId) (cells:List AV):Cx:=
 {w:=c.w.alloc (.cells arr T),f:=fun id=>if id=n then c.w.heap.size else c.f id,al:=fun id=>c.al id∨id=n,M:=fun id=>if id=n then some ⟨cells,T⟩ else c.M id,no:=c.no}
theorem Mv {B:Nat} {c:Cx} (g:Good B c) {n:Nat} (hn:¬c.al n) (arr:Array Value) (T:TypeId) (cells:List AV):Step c (c.new n arr T cells):=by
 refine ⟨rfl,rfl,rfl,by simp [Cx.new],fun b hb _=>Below.heap_alloc _ _ b hb,fun b hb ho=> ?_,fun id hi=> ?_,fun _ h=> .inl h,fun _=>Iff.rfl,fun b a' T' h=>⟨a',?_,rfl⟩,Nat.le_refl _⟩
 ·obtain ⟨id,By,hM,hf⟩:=ho
  by_cases h:id=n
  ·simp only [Cx.new,h,if_true] at hf;omega
  ·simp only [Cx.new,h,if_false] at hM hf;exact ⟨id,By,hM,hf⟩
 ·have:id≠n:=fun h=>hn (h ▸ hi)
  simp [Cx.new,this]
 ·show (c.w.alloc (.cells arr T)).heap[b]?=_
  rw [Below.heap_alloc _ _ b (E9 h)];exact h
theorem Pk (w:World) (o:Obj):(w.alloc o).heap[w.heap.size]?=some o:=by show (w.heap.push o)[w.heap.size]?=some o;simp
theorem Rg {B:Nat} {c:Cx} (g:Good B c) {n:Nat} (hn:¬c.al n) {arr:Array Value} {T:TypeId} {cells:List AV} {vs rest:List Value} (h1:arr.toList=vs++rest) (h2:Bm c cells vs):Good B (c.new n arr T cells):=by
 have st:=Mv g hn arr T cells
 have hB:=g.hB
 refine ⟨by simp [Cx.new];omega,fun id By h=> ?_,fun id By h=> ?_,g.Jg,fun id id' By blk' h h' hf=> ?_⟩
 ·by_cases hi:id=n
  ·subst hi;simp [Cx.new];exact hB
  ·simp only [Cx.new,hi,if_false] at h ⊢;exact ⟨(g.low id By h).1,.inl (g.low id By h).2⟩
 ·by_cases hi:id=n
  ·subst hi
   simp only [Cx.new,if_true,Option.some.injEq] at h
   subst h
   exact ⟨arr,vs,rest,by simp only [Cx.new,if_true];exact Pk _ _,h1,h2.step st⟩
  ·have hM:c.M id=some By:=by simpa [Cx.new,hi] using h
   obtain ⟨a',v',r',k1,k2,k3⟩:=g.By id By hM
   refine ⟨a',v',r',?_,k2,k3.step st⟩
   simp only [Cx.new,hi,if_false]
   rw [Below.heap_alloc _ _ _ (E9 k1)];exact k1
 ·by_cases hi:id=n<;>by_cases hi':id'=n
  ·rw [hi,hi']
  ·exfalso
   have hM:c.M id'=some blk':=by simpa [Cx.new,hi'] using h'
   have:=g.lt hM
   simp only [Cx.new,hi,hi',if_true,if_false] at hf;omega
  ·exfalso
   have hM:c.M id=some By:=by simpa [Cx.new,hi] using h
   have:=g.lt hM
   simp only [Cx.new,hi,hi',if_true,if_false] at hf;omega
  ·simp only [Cx.new,hi,hi',if_false] at h h' hf;exact g.inj id id' By blk' h h' hf
def Cx.put (c:Cx) (n id:Nat) (arr:Array Value) (T:TypeId) (cells:List AV):Cx:=
 {w:=c.w.setRow (c.f id) arr,f:=c.f,al:=fun k=>c.al k∨k=n,M:=fun k=>if k=id then some ⟨cells,T⟩ else c.M k,no:=c.no}
theorem Up {B:Nat} {c:Cx} (g:Good B c) {n id:Nat} {By:Be} (hM:c.M id=some By) {old arr:Array Value} (ho:c.w.heap[c.f id]?=some (.cells old By.ty)) (hs:arr.size=old.size) (T:TypeId) (cells:List AV):Step c (c.put n id arr T cells):=by
 refine ⟨rfl,rfl,rfl,by simp [Cx.put],fun b hb hn=> ?_,fun b hb ho=> ?_,fun _ _=>rfl,fun _ h=> .inl h,fun _=>Iff.rfl,fun b a' T' h=> ?_,Nat.le_refl _⟩
 ·show (c.w.setRow (c.f id) arr).heap[b]?=_
  exact setRow_other _ _ _ _ (fun h=>hn ⟨id,By,hM,h.symm⟩)
 ·obtain ⟨k,bk,hk,hf⟩:=ho
  by_cases h:k=id
  ·exact ⟨id,By,hM,h ▸ hf⟩
  ·simp only [Cx.put,h,if_false] at hk;exact ⟨k,bk,hk,hf⟩
 ·by_cases hb:b=c.f id
  ·subst hb
   rw [ho] at h
   simp only [Option.some.injEq,Obj.cells.injEq,and_true] at h
   obtain ⟨rfl,rfl⟩:=h
   exact ⟨arr,setRow_heap _ _ _ _ _ _ ho,hs⟩
  ·exact ⟨a',by show (c.w.setRow (c.f id) arr).heap[b]?=_;rw [setRow_other _ _ _ _ hb];exact h,rfl⟩
theorem dA {B:Nat} {c:Cx} (g:Good B c) {n id:Nat} {By:Be} (hM:c.M id=some By) {old arr:Array Value} (ho:c.w.heap[c.f id]?=some (.cells old By.ty)) (hs:arr.size=old.size) {cells:List AV} {vs rest:List Value} (h1:arr.toList=vs++rest) (h2:Bm c cells vs):Good B (c.put n id arr By.ty cells):=by
 have st:=Up (n:=n) g hM ho hs By.ty cells
 refine ⟨by simpa [Cx.put] using g.hB,fun k bk h=> ?_,fun k bk h=> ?_,g.Jg,fun k k' bk bk' h h' hf=> ?_⟩
 ·by_cases hk:k=id
  ·subst hk;exact ⟨(g.low k By hM).1,.inl (g.low k By hM).2⟩
  ·simp only [Cx.put,hk,if_false] at h;exact ⟨(g.low k bk h).1,.inl (g.low k bk h).2⟩
 ·by_cases hk:k=id
  ·subst hk
   simp only [Cx.put,if_true,Option.some.injEq] at h
   subst h
   exact ⟨arr,vs,rest,setRow_heap _ _ _ _ _ _ ho,h1,h2.step st⟩
  ·have hM':c.M k=some bk:=by simpa [Cx.put,hk] using h
   obtain ⟨a',v',r',k1,k2,k3⟩:=g.By k bk hM'
   refine ⟨a',v',r',?_,k2,k3.step st⟩
   show (c.w.setRow (c.f id) arr).heap[c.f k]?=_
   rw [setRow_other _ _ _ _ (fun he=>hk (g.inj k id bk By hM' hM he))];exact k1
 ·have e1:∃b1,c.M k=some b1:=by
   by_cases hk:k=id
   ·exact ⟨By,hk ▸ hM⟩
   ·exact ⟨bk,by simpa [Cx.put,hk] using h⟩
  have e2:∃b1,c.M k'=some b1:=by
   by_cases hk:k'=id
   ·exact ⟨By,hk ▸ hM⟩
   ·exact ⟨bk',by simpa [Cx.put,hk] using h'⟩
  obtain ⟨b1,e1⟩:=e1
  obtain ⟨b2,e2⟩:=e2
  exact g.inj k k' b1 b2 e1 e2 hf
def Cx.drop (c:Cx) (id:Nat):Cx:={c with M:=fun k=>if k=id then none else c.M k}
theorem K8 (c:Cx) (id:Nat):Step c (c.drop id):=by
 refine ⟨rfl,rfl,rfl,Nat.le_refl _,fun _ _ _=>rfl,fun b _ ho=> ?_,fun _ _=>rfl,fun _ h=>h,fun _=>Iff.rfl,fun b arr T h=>⟨arr,h,rfl⟩,Nat.le_refl _⟩
 obtain ⟨k,bk,hk,hf⟩:=ho
 by_cases h:k=id
 ·simp [Cx.drop,h] at hk
 ·simp only [Cx.drop,h,if_false] at hk;exact ⟨k,bk,hk,hf⟩
theorem aE {c:Cx} {id k:Nat} {bk:Be} (h:(c.drop id).M k=some bk):c.M k=some bk:=by
 by_cases hk:k=id
 ·simp [Cx.drop,hk] at h
 ·simpa [Cx.drop,hk] using h
theorem Xe {B:Nat} {c:Cx} (g:Good B c) (id:Nat):Good B (c.drop id):=
 ⟨g.hB,fun k bk h=>g.low k bk (aE h),fun k bk h=>by
  obtain ⟨a',v',r',k1,k2,k3⟩:=g.By k bk (aE h)
  exact ⟨a',v',r',k1,k2,k3.step (K8 c id)⟩,g.Jg,fun k k' bk bk' h h' hf=>g.inj k k' bk bk' (aE h) (aE h') hf⟩
def Cx.pass (c:Cx) (n id:Nat) (cells:List AV) (T:TypeId):Cx:=
 {w:=c.w,f:=fun k=>if k=n then c.f id else c.f k,al:=fun k=>c.al k∨k=n,M:=fun k=>if k=id then none else if k=n then some ⟨cells,T⟩ else c.M k,no:=c.no}
theorem Yl {B:Nat} {c:Cx} (g:Good B c) {n id:Nat} (hn:¬c.al n) {By:Be} (hM:c.M id=some By) (cells:List AV) (T:TypeId):Step c (c.pass n id cells T):=by
 refine ⟨rfl,rfl,rfl,Nat.le_refl _,fun _ _ _=>rfl,fun b _ ho=> ?_,fun k hk=> ?_,fun _ h=> .inl h,fun _=>Iff.rfl,fun b arr T h=>⟨arr,h,rfl⟩,Nat.le_refl _⟩
 ·obtain ⟨k,bk,hk,hf⟩:=ho
  by_cases h:k=id
  ·simp [Cx.pass,h] at hk
  ·by_cases h':k=n
   ·subst h';simp only [Cx.pass,if_true] at hf;exact ⟨id,By,hM,hf⟩
   ·simp only [Cx.pass,h,h',if_false] at hk hf;exact ⟨k,bk,hk,hf⟩
 ·have:k≠n:=fun h=>hn (h ▸ hk)
  simp [Cx.pass,this]
theorem mV {B:Nat} {c:Cx} (g:Good B c) {n id:Nat} (hn:¬c.al n) {By:Be} (hM:c.M id=some By) {cells:List AV} {arr:Array Value} {vs rest:List Value} (ho:c.w.heap[c.f id]?=some (.cells arr By.ty)) (h1:arr.toList=vs++rest) (h2:Bm c cells vs):Good B (c.pass n id cells By.ty):=by
 have st:=Yl g hn hM cells By.ty
 have hid:id≠n:=fun h=>hn (h ▸ (g.low id By hM).2)
 have hk0:∀k bk,(c.pass n id cells By.ty).M k=some bk→k≠id∧(k=n∨(k≠n∧c.M k=some bk)):=by
  intro k bk h
  by_cases hk:k=id
  ·simp [Cx.pass,hk] at h
  ·by_cases hk':k=n
   ·exact ⟨hk,.inl hk'⟩
   ·simp only [Cx.pass,hk,hk',if_false] at h;exact ⟨hk,.inr ⟨hk',h⟩⟩
 refine ⟨g.hB,fun k bk h=> ?_,fun k bk h=> ?_,g.Jg,fun k k' bk bk' h h' hf=> ?_⟩
 ·obtain ⟨_,rfl|⟨hk,hM'⟩⟩:=hk0 k bk h
  ·simp only [Cx.pass,if_true];exact ⟨(g.low id By hM).1,.inr trivial⟩
  ·simp only [Cx.pass,hk,if_false];exact ⟨(g.low k bk hM').1,.inl (g.low k bk hM').2⟩
 ·obtain ⟨hki,rfl|⟨hk,hM'⟩⟩:=hk0 k bk h
  ·simp only [Cx.pass,hki,if_true,if_false,Option.some.injEq] at h
   subst h
   refine ⟨arr,vs,rest,?_,h1,h2.step st⟩
   simp only [Cx.pass,if_true];exact ho
  ·obtain ⟨a',v',r',k1,k2,k3⟩:=g.By k bk hM'
   exact ⟨a',v',r',by simp only [Cx.pass,hk,if_false];exact k1,k2,k3.step st⟩
 ·obtain ⟨hki,rfl|⟨hk,hM1⟩⟩:=hk0 k bk h<;>obtain ⟨hki',rfl|⟨hk',hM2⟩⟩:=hk0 k' bk' h'
  ·rfl
  ·exfalso
   simp only [Cx.pass,hk',if_true,if_false] at hf
   exact hki' (g.inj k' id bk' By hM2 hM hf.symm)
  ·exfalso
   simp only [Cx.pass,hk,if_true,if_false] at hf
   exact hki (g.inj k id bk By hM1 hM hf)
  ·simp only [Cx.pass,hk,hk',if_false] at hf;exact g.inj k k' bk bk' hM1 hM2 hf
def Cx.more (c:Cx) (o:Obj):Cx:={c with w:=c.w.alloc o}
theorem X5 {B:Nat} {c:Cx} (g:Good B c) (o:Obj):Step c (c.more o):=by
 refine ⟨rfl,rfl,rfl,by simp [Cx.more],fun b hb _=>Below.heap_alloc _ _ b hb,fun b hb ho=>ho,fun _ _=>rfl,fun _ h=>h,fun _=>Iff.rfl,fun b a' T' h=>⟨a',?_,rfl⟩,Nat.le_refl _⟩
 show (c.w.alloc o).heap[b]?=_
 rw [Below.heap_alloc _ _ b (E9 h)];exact h
theorem oW {B:Nat} {c:Cx} (g:Good B c) (o:Obj):Good B (c.more o):=by
 have hB:=g.hB
 refine ⟨by simp [Cx.more];omega,g.low,fun id By h=> ?_,g.Jg,g.inj⟩
 obtain ⟨a',v',r',k1,k2,k3⟩:=g.By id By h
 refine ⟨a',v',r',?_,k2,k3.step (X5 g o)⟩
 show (c.w.alloc o).heap[c.f id]?=_
 rw [Below.heap_alloc _ _ _ (E9 k1)];exact k1
theorem aW {B:Nat} {c:Cx} (g:Good B c) (o:Obj):(c.more o).Bx c.w.heap.size:=by
 refine ⟨by simp [Cx.more],fun ⟨id,By,hM,hf⟩=> ?_,fun h=> ?_⟩
 ·have:=g.lt hM;simp only [Cx.more] at hf;omega
 ·have:=g.Jg _ h;have:=g.hB;omega
def Cx.drew (c:Cx):Cx:={c with w:=c.w.drew}
theorem Hd (c:Cx):Step c c.drew:=⟨rfl,rfl,rfl,Nat.le_refl _,fun _ _ _=>rfl,fun _ _ h=>h,fun _ _=>rfl,fun _ h=>h,fun _=>Iff.rfl,fun b arr T h=>⟨arr,h,rfl⟩,bB (Nat.le_succ _)⟩
theorem Ld {B:Nat} {c:Cx} (g:Good B c):Good B c.drew:=
 ⟨g.hB,g.low,fun id By h=>by
  obtain ⟨a',v',r',k1,k2,k3⟩:=g.By id By h
  exact ⟨a',v',r',k1,k2,k3.step (Hd c)⟩,g.Jg,g.inj⟩
end Go.Proofs.YtkdodbfnocdkdaaGreatDoor
set_option linter.unusedVariables false
set_option linter.unusedSimpArgs false
namespace Go.Proofs.YtkdodbfnocdkdaaGreatDoor
open Go.RowKit
section
variable {P:Program}
theorem Dk {t:TypeId} {n:Nat} (h:Df P t=some n) (w:World):(sizeOf t).run P w=.ok n w:=by
 unfold Df at h
 cases hi:P.info? t with
 |none=>simp [hi] at h
 |some i=>simp [hi] at h;simp [sizeOf,typeInfo,hi,h]
theorem oY {t:TypeId} {n:Nat} (h:K1 P t=some n) (w:World):∃i,(typeInfo t).run P w=.ok i w∧i.bytes=n:=by
 unfold K1 at h
 cases hi:P.info? t with
 |none=>simp [hi] at h
 |some i=>simp [hi] at h;exact ⟨i,by simp [typeInfo,hi],h⟩
theorem Li {t:TypeId} {z:Value} (h:Gv P t=some z) (w:World):(zeroValue t).run P w=.ok z w:=by
 unfold Gv at h
 cases hi:P.info? t with
 |none=>simp [hi] at h
 |some i=>simp [hi] at h;simp [zeroValue,typeInfo,hi,h]
theorem Lx {t:TypeId} {d:TypeDesc} (h:P.underlying t=some d) (w:World):(isAgg t).run P w=.ok (Hh d) w:=by
 simp only [isAgg,Sem.run_bind,run_underlying h,Result.andThen_ok]
 cases d<;>rfl
theorem Mu {α:Type}:∀(s:Sem α) (a:α),B5 P s=some a→∀w,s.run P w=.ok a w
 |.pure a,b,h,w=>by simp only [B5,Option.some.injEq] at h;subst h;rfl
 |.program k,b,h,w=>Mu (k P) b h w
 |.load ..,b,h,w=>by simp [B5] at h
 |.store ..,b,h,w=>by simp [B5] at h
 |.new ..,b,h,w=>by simp [B5] at h
 |.shape ..,b,h,w=>by simp [B5] at h
 |.freeze ..,b,h,w=>by simp [B5] at h
 |.frozen ..,b,h,w=>by simp [B5] at h
 |.getObj ..,b,h,w=>by simp [B5] at h
 |.setObj ..,b,h,w=>by simp [B5] at h
 |.choose ..,b,h,w=>by simp [B5] at h
 |.sys ..,b,h,w=>by simp [B5] at h
 |.mark ..,b,h,w=>by simp [B5] at h
 |.halt ..,b,h,w=>by simp [B5] at h
theorem Uq {v:Value} {x:AV} (h:U5 v=some x) (c:Cx):Bo c x v:=by
 unfold U5 at h
 split at h
 ·simp only [Option.some.injEq] at h;subst h;exact .Bg
 ·simp only [Option.some.injEq] at h;subst h;exact .Lb
 ·simp only [Option.some.injEq] at h;subst h;exact .Qe
 ·cases hs:Nx v with
  |true=>rw [hs] at h;simp only [cond_true,Option.some.injEq] at h;subst h;exact .sc v hs
  |false=>rw [hs] at h;simp at h
theorem Mq:∀{vs:List Value} {xs:List AV},Ls vs=some xs→∀c:Cx,Bm c xs vs
 |[],xs,h,c=>by simp only [Ls,Option.some.injEq] at h;subst h;exact .nil
 |v::vs,xs,h,c=>by
  unfold Ls at h
  cases h1:U5 v with
  |none=>simp [h1] at h
  |some x=>
   cases h2:Ls vs with
   |none=>simp [h1,h2] at h
   |some ys=>
    simp only [h1,h2,Option.some.injEq] at h
    subst h
    exact .cons (Uq h1 c) (Mq h2 c)
theorem Jj {v:Value} {x:AV} (h:G0 v=some x) (c:Cx):Bo c x v:=by
 unfold G0 at h
 split at h
 ·rename_i cs
  obtain ⟨l,hl,rfl⟩:=Option.map_eq_some_iff.1 h
  have:=Bo.agg (Mq hl c)
  simpa using this
 ·rename_i cs
  obtain ⟨l,hl,rfl⟩:=Option.map_eq_some_iff.1 h
  have:=Bo.Bn (Mq hl c)
  simpa using this
 ·exact Uq h c
theorem jJ {c:Cx} {x:AV} {v v':Value} (h:Oa x=some v) (r:Bo c x v'):v'=v:=by
 cases r<;>simp [Oa] at h<;>exact h
theorem Nt {c:Cx}:∀{xs:List AV} {vs vs':List Value},Jx xs=some vs→Bm c xs vs'→vs'=vs
 |[],vs,vs',h,r=>by cases r;simp only [Jx,Option.some.injEq] at h;exact h
 |x::xs,vs,vs',h,r=>by
  cases r with
  |cons r1 r2=>
   unfold Jx at h
   cases h1:Oa x with
   |none=>simp [h1] at h
   |some u=>
    cases h2:Jx xs with
    |none=>simp [h1,h2] at h
    |some us=>
     simp only [h1,h2,Option.some.injEq] at h
     subst h
     rw [jJ h1 r1,Nt h2 r2]
theorem sN {c:Cx} {x:AV} {v v':Value} (h:Qa x=some v) (r:Bo c x v'):v'=v:=by
 cases r with
 |agg hr=>
  obtain ⟨l,hl,rfl⟩:=Option.map_eq_some_iff.1 (by simpa [Qa] using h)
  rw [Nt hl hr]
 |Bn hr=>
  obtain ⟨l,hl,rfl⟩:=Option.map_eq_some_iff.1 (by simpa [Qa] using h)
  rw [Nt hl hr]
 |_=>simp [Qa,Oa] at h<;>exact h
theorem Il {c:Cx} {x:AV} {v:Value} {cs:List AV} (r:Bo c x v) (h:C4 x=some cs):Bm c cs v.cells.toList:=by
 cases r with
 |Es=>simp [C4] at h
 |Bn=>simp [C4] at h
 |agg hr=>simp only [C4,Option.some.injEq] at h;subst h;simpa [Value.cells] using hr
 |sc v hs=>
  simp only [C4,Option.some.injEq] at h;subst h
  have:v.cells=#[v]:=by cases v<;>simp [Nx] at hs<;>rfl
  rw [this];exact Bm.one (.sc v hs)
 |Lb=>simp only [C4,Option.some.injEq] at h;subst h;exact Bm.one .Lb
 |Bg=>simp only [C4,Option.some.injEq] at h;subst h;exact Bm.one .Bg
 |ptr ha off=>simp only [C4,Option.some.injEq] at h;subst h;exact Bm.one (.ptr ha off)
 |Cq a b d off=>simp only [C4,Option.some.injEq] at h;subst h;exact Bm.one (.Cq a b d off)
 |Gd a cap ex he hm hn=>simp only [C4,Option.some.injEq] at h;subst h;exact Bm.one (.Gd a cap ex he hm hn)
 |Ec a b d e f g=>simp only [C4,Option.some.injEq] at h;subst h;exact Bm.one (.Ec a b d e f g)
 |sl a b d e f g i=>simp only [C4,Option.some.injEq] at h;subst h;exact Bm.one (.sl a b d e f g i)
 |fn f hr=>simp only [C4,Option.some.injEq] at h;subst h;exact Bm.one (.fn f hr)
 |Qe=>simp only [C4,Option.some.injEq] at h;subst h;exact Bm.one .Qe
 |Tt u q=>simp only [C4,Option.some.injEq] at h;subst h;exact Bm.one (.Tt u q)
theorem gJ {c:Cx} {x:AV} {v:Value} (r:Bo c x v) (h:Cl x=true):v.oneCell'=true:=by
 cases r with
 |sc v hs=>cases v<;>simp [Nx] at hs<;>rfl
 |_=>first|rfl|simp [Cl] at h
theorem cells_one {c:Cx}:∀{xs:List AV} {vs:List Value},Bm c xs vs→xs.all Cl=true→∀v∈vs,v.oneCell'=true
 |[],_,r,_,v,hv=>by cases r;simp at hv
 |x::xs,_,r,h,v,hv=>by
  cases r with
  |cons r1 r2=>
   simp only [List.all_cons,Bool.and_eq_true] at h
   rcases List.mem_cons.1 hv with rfl|hv
   ·exact gJ r1 h.1
   ·exact cells_one r2 h.2 v hv
def Wn (M:Nat→Option Be):Wr→Nat→Option Be
 |[],id=>M id
 |(i,r)::rest,id=>Wn (fun k=>if k=i then r else M k) rest id
def Gs (P:Program) (B n:Nat) (c:Cx) (s:Sem Next) (v:AV) (d:Wr):Prop:=
 ∃(nx:Next) (v':Value) (c':Cx),s.run P c.w=.ok nx c'.w∧(nx=.value v'∨(nx=.skip∧v'=undef))∧Bo c' v v'∧Step c c'∧Good B c'∧(∀id,c'.al id↔c.al id∨id=n)∧∀id,c'.M id=Wn c.M d id
variable {B n:Nat} {c:Cx}
theorem Gs.still {s:Sem Next} {v:AV} {v':Value} (g:Good B c) (hr:s.run P c.w=.ok (.value v') c.w) (hv:Bo c v v'):Gs P B n c s v []:=
 ⟨_,v',c.tick n,hr,.inl rfl,hv.step (Ig c n),Ig c n,Oe g n,fun _=>Iff.rfl,fun _=>rfl⟩
theorem Gs.made {s:Sem Next} {v:AV} {v':Value} (g:Good B c) (hn:¬c.al n) {arr:Array Value} {T:TypeId} {cells:List AV} {vs rest:List Value} (h1:arr.toList=vs++rest) (h2:Bm c cells vs)
  (hr:s.run P c.w=.ok (.value v') (c.w.alloc (.cells arr T))) (hv:Bo (c.new n arr T cells) v v'):Gs P B n c s v [(n,some ⟨cells,T⟩)]:=
 ⟨_,v',c.new n arr T cells,hr,.inl rfl,hv,Mv g hn arr T cells,Rg g hn h1 h2,fun _=>Iff.rfl,fun _=>rfl⟩
theorem T1 {w:World} {b o:Nat} {cs:List AV} {vs:List Value} (hr:Bm c cs vs) (hc:Iv w b o vs) {t:TypeId} {off:Nat} {x:AV} (h:apart P t cs off=some x):
  ∃v',(loadVar t ⟨b,o+off,none⟩).run P w=.ok v' w∧Bo c x v':=by
 unfold apart at h
 cases hu:P.underlying t with
 |none=>simp [hu] at h
 |some d=>
  simp only [hu] at h
  cases hg:Hh d with
  |true=>
   rw [hg] at h
   simp only [cond_true] at h
   cases hz:Df P t with
   |none=>simp [hz] at h
   |some k=>
    simp only [hz] at h
    cases hb:Nat.ble (off+k) cs.length with
    |false=>simp [hb] at h
    |true=>
     simp only [hb,cond_true,Option.some.injEq] at h
     subst h
     have hle:off+k≤vs.length:=by rw [← hr.length];exact Nat.le_of_ble_eq_true hb
     have hlen:((vs.drop off).take k).length=k:=by simp;omega
     refine ⟨.agg ((vs.drop off).take k).toArray,?_,.agg ((hr.drop off).take k)⟩
     have hl:=run_loadCells_list (P:=P) w ⟨b,o+off,none⟩ ((vs.drop off).take k) (fun j v hv=>by
      rw [addr_add]
      rw [List.getElem?_take] at hv
      split at hv
      ·rw [List.getElem?_drop] at hv
       have:=hc (off+j) v hv
       rwa [← Nat.add_assoc] at this
      ·cases hv)
     rw [hlen] at hl
     simp only [loadVar,Sem.run_bind,Lx hu,Result.andThen_ok,hg,if_true,Dk hz,hl,Sem.run_pure]
  |false=>
   rw [hg] at h
   simp only [cond_false] at h
   obtain ⟨v',hv,hx⟩:=hr.get h
   refine ⟨v',?_,hx⟩
   have:=hc off v' hv
   simp only [loadVar,Sem.run_bind,Lx hu,Result.andThen_ok,hg,load,Sem.run]
   simp [Sem.run,this]
theorem Good.cells (g:Good B c) {id:Nat} {b:Be} (h:c.M id=some b):∃(arr:Array Value) (vs rest:List Value),c.w.heap[c.f id]?=some (.cells arr b.ty)∧arr.toList=vs++rest∧Bm c b.cells vs∧Iv c.w (c.f id) 0 vs:=by
 obtain ⟨arr,vs,rest,h1,h2,h3⟩:=g.By id b h
 refine ⟨arr,vs,rest,h1,h2,h3,fun k v hv=> ?_⟩
 have hk:k<vs.length:=by
  rcases Nat.lt_or_ge k vs.length with h'|h'
  ·exact h'
  ·rw [List.getElem?_eq_none h'] at hv;cases hv
 have:arr[k]?=some v:=by rw [← Array.getElem?_toList,h2,List.getElem?_append_left hk];exact hv
 simp [World.cell?,h1,this]
variable {ev:Operand→Value} {ρ:Operand→Option AV} {look:Nat→Option Be} {o:Oper}
theorem Aei (g:Good B c) (hl:∀id b,look id=some b→c.M id=some b) {t:TypeId} {a:Operand} (ho:o.op=.load t a) {x v:AV} {d:Wr} (hx:Bo c x (ev a)) (h:D7 P look t x=some (v,d)):Gs P B n c (execOp ev o) v d:=by
 unfold D7 at h
 split at h
 ·rename_i id off
  cases hb:look id with
  |none=>simp [hb] at h
  |some b=>
   simp only [hb] at h
   obtain ⟨y,hy,he⟩:=Option.map_eq_some_iff.1 h
   simp only [Prod.mk.injEq] at he
   obtain ⟨rfl,rfl⟩:=he
   obtain ⟨arr,vs,rest,-,-,h3,h4⟩:=g.cells (hl id b hb)
   obtain ⟨v',hr,hv⟩:=T1 (w:=c.w) h3 h4 hy
   rw [Nat.zero_add] at hr
   have ea:ev a=.pointer (some ⟨c.f id,off,none⟩):=by generalize ev a=u at hx;cases hx;rfl
   exact .still g (by simp only [execOp,ho,Instr.loadAt,ea,Instr.sureAddr,Sem.run_bind,Sem.run_pure,Result.andThen_ok,hr]) hv
 ·rename_i cs off
  obtain ⟨y,hy,he⟩:=Option.map_eq_some_iff.1 h
  simp only [Prod.mk.injEq] at he
  obtain ⟨rfl,rfl⟩:=he
  generalize hu:ev a=u at hx
  cases hx with
  |Cq hb hr hc off=>
   obtain ⟨v',hr',hv⟩:=T1 (w:=c.w) hr hc hy
   exact .still g (by simp only [execOp,ho,Instr.loadAt,hu,Instr.sureAddr,Sem.run_bind,Sem.run_pure,Result.andThen_ok,hr']) hv
 ·cases h
end
end Go.Proofs.YtkdodbfnocdkdaaGreatDoor
set_option linter.unusedVariables false
set_option linter.unusedSimpArgs false
namespace Go.Proofs.YtkdodbfnocdkdaaGreatDoor
open Go.RowKit
section
variable {P:Program} {B n:Nat} {c:Cx} {ev:Operand→Value} {ρ:Operand→Option AV} {look:Nat→Option Be} {o:Oper}
theorem jY (g:Good B c) {x:Operand} (ho:o.op=.move x∨o.op=.assign x) {y:AV} (hx:Bo c y (ev x)):Gs P B n c (execOp ev o) y []:=by
 rcases ho with ho|ho<;>exact .still g (by simp only [execOp,ho,Sem.run_pure]) hx
theorem Aex (g:Good B c) {t a b:Operand} (ho:o.op=.pick t a b) {q:Bool} (ht:Bo c (.sc (.bool q)) (ev t)) {x:AV} (hx:Bo c x (ev (bif q then a else b))):Gs P B n c (execOp ev o) x []:=by
 have et:ev t=.bool q:=by generalize ev t=u at ht;cases ht;rfl
 refine .still g (v':=ev (bif q then a else b)) ?_ hx
 cases q<;>simp [execOp,ho,et,asBool]
theorem kA {arr:Array Value} {T:TypeId} {cells:List AV}:Bo (c.new n arr T cells) (.ptr n 0) (.pointer (some ⟨c.w.heap.size,0,none⟩)):=by
 have h:(c.new n arr T cells).f n=c.w.heap.size:=by simp [Cx.new]
 have:=Bo.ptr (c:=c.new n arr T cells) (id:=n) (.inr rfl) 0
 rwa [h] at this
theorem Aa4 (g:Good B c) (hn:¬c.al n) {t:TypeId} (ho:o.op=.alloc t) {cs:List AV} (h:(Gv P t).bind (fun z=>(G0 z).bind C4)=some cs):Gs P B n c (execOp ev o) (.ptr n 0) [(n,some ⟨cs,t⟩)]:=by
 obtain ⟨z,hz,h⟩:=Option.bind_eq_some_iff.1 h
 obtain ⟨x,hx,h⟩:=Option.bind_eq_some_iff.1 h
 have hr:=Il (Jj hx c) h
 refine .made g hn (arr:=z.cells) (rest:=[]) (by simp) hr ?_ kA
 simp [execOp,ho,Instr.alloc,Li hz,newVar,newRow,newObj];rfl
theorem Akx (g:Good B c) (hn:¬c.al n) {t:TypeId} {x:Operand} (ho:o.op=.box t x) {y:AV} (hx:Bo c y (ev x)) {cs:List AV} (h:C4 y=some cs):Gs P B n c (execOp ev o) (.ptr n 0) [(n,some ⟨cs,t⟩)]:=by
 have hr:=Il hx h
 refine .made g hn (arr:=(ev x).cells) (rest:=[]) (by simp) hr ?_ kA
 simp [execOp,ho,Instr.box,newVar,newRow,newObj];rfl
theorem eP {cs:List AV} {vs:List Value} {ncs:List AV} {new:List Value} (hr:Bm c cs vs) (hn:Bm c ncs new) (off:Nat):Bm c (Dh cs off ncs) (vs.take off++new++vs.drop (off+new.length)):=by
 unfold Dh
 rw [hn.length]
 exact ((hr.take off).append hn).append (hr.drop _)
theorem Gs.wrote (g:Good B c) {id:Nat} {b:Be} (hM:c.M id=some b) {arr:Array Value} {vs rest:List Value} (ho:c.w.heap[c.f id]?=some (.cells arr b.ty)) (h1:arr.toList=vs++rest) (hr:Bm c b.cells vs)
  {off:Nat} {new:List Value} {ncs:List AV} (hle:off+new.length≤vs.length) (hnew:Bm c ncs new) {s:Sem Next} {nx:Next} {v:AV} {v':Value}
  (hrun:s.run P c.w=.ok nx (c.w.setRow (c.f id) (arr.toList.take off++new++arr.toList.drop (off+new.length)).toArray)) (hnx:nx=.value v'∨(nx=.skip∧v'=undef))
  (hv:∀c':Cx,Step c c'→Bo c' v v'):Gs P B n c s v [(id,some ⟨Dh b.cells off ncs,b.ty⟩)]:=by
 have hal:(vs++rest).length=arr.size:=by rw [← h1];simp
 have e0:arr.toList.take off++new++arr.toList.drop (off+new.length)=(vs.take off++new++vs.drop (off+new.length))++rest:=by
  rw [h1,List.take_append_of_le_length (by omega),List.drop_append_of_le_length hle];simp
 have hs:(arr.toList.take off++new++arr.toList.drop (off+new.length)).toArray.size=arr.size:=by
  rw [e0];simp at hal ⊢;omega
 have st:=Up (n:=n) g hM ho hs b.ty (Dh b.cells off ncs)
 exact ⟨nx,v',c.put n id _ b.ty (Dh b.cells off ncs),hrun,hnx,hv _ st,st,dA g hM ho hs (vs:=vs.take off++new++vs.drop (off+new.length)) (rest:=rest) (by simpa using e0) (eP hr hnew off),fun _=>Iff.rfl,fun _=>rfl⟩
theorem wF (g:Good B c) (hl:∀id b,look id=some b→c.M id=some b) {t:TypeId} {a x:Operand} (ho:o.op=.store t a x) {p y v:AV} {d:Wr} (hp:Bo c p (ev a)) (hy:Bo c y (ev x)) (h:V3 P look t p y=some (v,d)):Gs P B n c (execOp ev o) v d:=by
 unfold V3 at h
 split at h
 ·rename_i id off cs sz hcs hsz
  cases hb:look id with
  |none=>simp [hb] at h
  |some b=>
   simp only [hb] at h
   cases hc:(Nat.beq cs.length sz && Nat.ble (off+cs.length) b.cells.length && cs.all Cl) with
   |false=>simp [hc] at h
   |true=>
    simp only [hc,cond_true,Option.some.injEq,Prod.mk.injEq] at h
    obtain ⟨rfl,rfl⟩:=h
    simp only [Bool.and_eq_true] at hc
    obtain ⟨⟨h1,h2⟩,h3⟩:=hc
    obtain ⟨arr,vs,rest,k1,k2,k3,-⟩:=g.cells (hl id b hb)
    have hr:=Il hy hcs
    have hlen:(ev x).cells.toList.length=sz:=by rw [← hr.length];exact Nat.eq_of_beq_eq_true h1
    have hle:off+(ev x).cells.toList.length≤vs.length:=by rw [← hr.length,← k3.length];exact Nat.le_of_ble_eq_true h2
    have ea:ev a=.pointer (some ⟨c.f id,off,none⟩):=by generalize ev a=u at hp;cases hp;rfl
    have hal:(vs++rest).length=arr.size:=by rw [← k2];simp
    have hst:=run_storeCells_at P (c.f id) off b.ty (ev x).cells.toList 0 arr c.w k1 (by simp at hal hle ⊢;omega) (cells_one hr h3)
    refine .wrote g (hl id b hb) k1 k2 k3 (new:=(ev x).cells.toList) hle hr (nx:=.skip) (v':=undef) ?_ (.inr ⟨rfl,rfl⟩) (fun c' _=> .Es _)
    simp only [Nat.add_zero] at hst
    have hlen':(ev x).cells.size=sz:=by simpa using hlen
    simp only [execOp,ho,Instr.storeAt,ea,Instr.sureAddr,Sem.run_bind,Sem.run_pure,Result.andThen_ok,storeVar,Dk hsz,hlen',ne_eq,not_true_eq_false,if_false,hst]
 ·cases h
theorem Z8 (g:Good B c) {t:TypeId} {x:Operand} {fi:Nat} (ho:o.op=.fieldAddr t x fi) {y v:AV} {d:Wr} (hy:Bo c y (ev x)) (h:jG P t fi y=some (v,d)):Gs P B n c (execOp ev o) v d:=by
 unfold jG at h
 split at h
 ·rename_i id off
  split at h
  ·rename_i fs hu
   split at h
   ·rename_i fd hf
    split at h
    ·rename_i k hs
     simp only [Option.some.injEq,Prod.mk.injEq] at h
     obtain ⟨rfl,rfl⟩:=h
     generalize hev:ev x=u at hy
     cases hy with
     |ptr ha off=>
      refine .still g (v':=.pointer (some ⟨c.f id,off+fd.offset,none⟩)) ?_ (.ptr ha _)
      simp [execOp,ho,Instr.fieldAt,hev,run_underlying hu,hf,Instr.sureAddr,fieldPlace,Dk hs,Addr.add_lit]
    ·cases h
   ·cases h
  ·cases h
 ·rename_i cs off
  split at h
  ·rename_i fs hu
   split at h
   ·rename_i fd hf
    split at h
    ·rename_i k hs
     simp only [Option.some.injEq,Prod.mk.injEq] at h
     obtain ⟨rfl,rfl⟩:=h
     generalize hev:ev x=u at hy
     cases hy with
     |Cq hb hr hc off=>
      rename_i b o' vs
      refine .still g (v':=.pointer (some ⟨b,o'+(off+fd.offset),none⟩)) ?_ (.Cq hb hr hc _)
      simp [execOp,ho,Instr.fieldAt,hev,run_underlying hu,hf,Instr.sureAddr,fieldPlace,Dk hs,Addr.add_lit,Nat.add_assoc]
    ·cases h
   ·cases h
  ·cases h
 ·cases h
theorem gW {b o sz:Nat} {vs:List Value} {w:World} (hc:Iv w b o vs) (i:Nat):Iv w b (o+i*sz) ((vs.drop (i*sz)).take sz):=by
 intro k v hv
 rw [List.getElem?_take] at hv
 split at hv
 ·rw [List.getElem?_drop] at hv
  have:=hc _ v hv
  rwa [← Nat.add_assoc] at this
 ·cases hv
theorem aQ (g:Good B c) {t:TypeId} {x i:Operand} (ho:o.op=.indexAddr t x i) {y z v:AV} {d:Wr} (hy:Bo c y (ev x)) (hz:Bo c z (ev i)) (h:Pj P t y z=some (v,d)):Gs P B n c (execOp ev o) v d:=by
 unfold Pj at h
 split at h
 ·rename_i kk z
  have ei:ev i=.int kk z:=by generalize ev i=u at hz;cases hz;rfl
  split at h
  ·rename_i e hu
   split at h
   ·rename_i sz hs
    split at h
    ·rename_i id off esz m cap ex
     cases hq:(decide (0≤z) && decide (z<(m:Int))) with
     |false=>simp [hq] at h
     |true=>
      simp only [hq,cond_true,Option.some.injEq,Prod.mk.injEq] at h
      obtain ⟨rfl,rfl⟩:=h
      simp only [Bool.and_eq_true,decide_eq_true_eq] at hq
      generalize hev:ev x=u at hy
      cases hy with
      |sl ha hb hs' hn hc he hm=>
       refine .still g (v':=.pointer (some ⟨c.f id,off+z.toNat*sz,none⟩)) ?_ (.ptr ha _)
       simp [execOp,ho,Instr.indexAt,hev,ei,asIntOf,run_underlying hu,hq.1,hq.2,Dk hs,Addr.add_lit]
    ·rename_i m cs ex
     cases hq:(decide (0≤z) && decide (z<(m:Int))) with
     |false=>simp [hq] at h
     |true=>
      simp only [hq,cond_true,Option.some.injEq,Prod.mk.injEq] at h
      obtain ⟨rfl,rfl⟩:=h
      simp only [Bool.and_eq_true,decide_eq_true_eq] at hq
      generalize hev:ev x=u at hy
      cases hy with
      |Gd a cap ex he hm hn=>simp at hq;omega
      |Ec hb hr hc hn he hm=>
       rename_i b o' vs cap
       refine .still g (v':=.pointer (some ⟨b,o'+z.toNat*sz+0,none⟩)) ?_ (.Cq hb ((hr.drop _).take _) (gW hc _) 0)
       simp [execOp,ho,Instr.indexAt,hev,ei,asIntOf,run_underlying hu,hq.1,hq.2,Dk hs,Addr.add_lit]
    ·cases h
   ·cases h
  ·rename_i len e hu
   split at h
   ·rename_i sz hs
    split at h
    ·rename_i id off
     cases hq:(decide (0≤z) && decide (z<(len:Int))) with
     |false=>simp [hq] at h
     |true=>
      simp only [hq,cond_true,Option.some.injEq,Prod.mk.injEq] at h
      obtain ⟨rfl,rfl⟩:=h
      simp only [Bool.and_eq_true,decide_eq_true_eq] at hq
      generalize hev:ev x=u at hy
      cases hy with
      |ptr ha off=>
       refine .still g (v':=.pointer (some ⟨c.f id,off+z.toNat*sz,none⟩)) ?_ (.ptr ha _)
       simp [execOp,ho,Instr.indexAt,hev,ei,asIntOf,run_underlying hu,hq.1,hq.2,Dk hs,Addr.add_lit,Instr.sureAddr]
    ·rename_i cs off
     cases hq:(decide (0≤z) && decide (z<(len:Int))) with
     |false=>simp [hq] at h
     |true=>
      simp only [hq,cond_true,Option.some.injEq,Prod.mk.injEq] at h
      obtain ⟨rfl,rfl⟩:=h
      simp only [Bool.and_eq_true,decide_eq_true_eq] at hq
      generalize hev:ev x=u at hy
      cases hy with
      |Cq hb hr hc off=>
       rename_i b o' vs
       refine .still g (v':=.pointer (some ⟨b,o'+(off+z.toNat*sz),none⟩)) ?_ (.Cq hb hr hc _)
       simp [execOp,ho,Instr.indexAt,hev,ei,asIntOf,run_underlying hu,hq.1,hq.2,Dk hs,Addr.add_lit,Instr.sureAddr,Nat.add_assoc]
    ·cases h
   ·cases h
  ·cases h
 ·cases h
theorem kE {cs:List AV} {vs:List Value} (hr:Bm c cs vs) {t:TypeId} {off:Nat} {x:AV} (h:apart P t cs off=some x) (w:World):∃v',(part t vs.toArray off).run P w=.ok v' w∧Bo c x v':=by
 unfold apart at h
 cases hu:P.underlying t with
 |none=>simp [hu] at h
 |some d=>
  simp only [hu] at h
  cases hg:Hh d with
  |true=>
   rw [hg] at h
   simp only [cond_true] at h
   cases hz:Df P t with
   |none=>simp [hz] at h
   |some k=>
    simp only [hz] at h
    cases hb:Nat.ble (off+k) cs.length with
    |false=>simp [hb] at h
    |true=>
     simp only [hb,cond_true,Option.some.injEq] at h
     subst h
     refine ⟨.agg ((vs.drop off).take k).toArray,?_,.agg ((hr.drop off).take k)⟩
     have e:vs.toArray.extract off (off+k)=((vs.drop off).take k).toArray:=by apply Array.ext';simp [List.drop_take]
     simp only [part,Sem.run_bind,Lx hu,Result.andThen_ok,hg,if_true,Dk hz,Sem.run_pure,e]
  |false=>
   rw [hg] at h
   simp only [cond_false] at h
   obtain ⟨v',hv,hx⟩:=hr.get h
   refine ⟨v',?_,hx⟩
   simp [part,Sem.run_bind,Lx hu,Result.andThen_ok,hg,hv]
theorem qC (g:Good B c) {t:TypeId} {x:Operand} {fi:Nat} (ho:o.op=.field t x fi) {y v:AV} {d:Wr} (hy:Bo c y (ev x)) (h:Y9 P t fi y=some (v,d)):Gs P B n c (execOp ev o) v d:=by
 unfold Y9 at h
 split at h
 ·rename_i cs
  split at h
  ·rename_i fs hu
   split at h
   ·rename_i fd hf
    obtain ⟨y',hy',he⟩:=Option.map_eq_some_iff.1 h
    simp only [Prod.mk.injEq] at he
    obtain ⟨rfl,rfl⟩:=he
    generalize hev:ev x=u at hy
    cases hy with
    |agg hr=>
     obtain ⟨v',hrun,hv⟩:=kE hr hy' c.w
     refine .still g (v':=v') ?_ hv
     simp [execOp,ho,Instr.field,hev,run_underlying hu,hf,asAgg,hrun]
   ·cases h
  ·cases h
 ·cases h
theorem yV (g:Good B c) {t:TypeId} {x i:Operand} (ho:o.op=.index t x i) {y z v:AV} {d:Wr} (hy:Bo c y (ev x)) (hz:Bo c z (ev i)) (h:Ra P t y z=some (v,d)):Gs P B n c (execOp ev o) v d:=by
 unfold Ra at h
 split at h
 ·rename_i cs kk z
  have ei:ev i=.int kk z:=by generalize ev i=u at hz;cases hz;rfl
  split at h
  ·rename_i len e hu
   split at h
   ·rename_i sz hs
    cases hq:(decide (0≤z) && decide (z<(len:Int))) with
    |false=>simp [hq] at h
    |true=>
     simp only [hq,cond_true] at h
     obtain ⟨y',hy',he⟩:=Option.map_eq_some_iff.1 h
     simp only [Prod.mk.injEq] at he
     obtain ⟨rfl,rfl⟩:=he
     simp only [Bool.and_eq_true,decide_eq_true_eq] at hq
     generalize hev:ev x=u at hy
     cases hy with
     |agg hr=>
      obtain ⟨v',hrun,hv⟩:=kE hr hy' c.w
      refine .still g (v':=v') ?_ hv
      simp [execOp,ho,Instr.index,hev,ei,asIntOf,run_underlying hu,hq.1,hq.2,Dk hs,hrun]
   ·cases h
  ·cases h
 ·cases h
theorem iG (g:Good B c) {x:Operand} {i:Nat} (ho:o.op=.extract x i) {vs:List AV} (hy:Bo c (.Bn vs) (ev x)) {v:AV} (h:vs[i]?=some v):Gs P B n c (execOp ev o) v []:=by
 generalize hev:ev x=u at hy
 cases hy with
 |Bn hr=>
  obtain ⟨v',hv,hx⟩:=hr.get h
  refine .still g (v':=v') ?_ hx
  simp [execOp,ho,Instr.extract,hev,hv]
def Amv:AV→Bool
 |.ptr ..|.Cq ..|.fn ..=>true
 |_=>false
theorem Np (g:Good B c) {x:Operand} (ho:o.op=.nilCheck x) {y:AV} (hy:Bo c y (ev x)) (h:Amv y=true):Gs P B n c (execOp ev o) y []:=by
 generalize hev:ev x=u at hy
 cases hy with
 |ptr ha off=>exact .still g (by simp [execOp,ho,hev]) (.ptr ha off)
 |Cq hb hr hc off=>exact .still g (by simp [execOp,ho,hev]) (.Cq hb hr hc off)
 |fn f hr=>exact .still g (by simp [execOp,ho,hev]) (.fn f hr)
 |_=>simp [Amv] at h
theorem K7 {l:List Operand} (hρ:∀x∈l,∀y,ρ x=some y→Bo c y (ev x)) {ys:List AV} (h:opts ρ l=some ys):Bm c ys (l.map ev):=by
 induction l generalizing ys with
 |nil=>simp only [opts,Option.some.injEq] at h;subst h;exact .nil
 |cons x r ih=>
  unfold opts at h
  cases h1:ρ x with
  |none=>simp [h1] at h
  |some v=>
   cases h2:opts ρ r with
   |none=>simp [h1,h2] at h
   |some vs=>
    simp only [h1,h2,Option.some.injEq] at h
    subst h
    exact .cons (hρ x (by simp) v h1) (ih (fun y hy=>hρ y (by simp [hy])) h2)
theorem bF (g:Good B c) {f:FuncId} {first caps:Array Operand} (ho:o.op=.makeFunc (.func f) first caps) (hf:first.toList=[]) (hρ:∀x∈caps.toList,∀y,ρ x=some y→Bo c y (ev x)) {l:List AV} (h:opts ρ caps.toList=some l):Gs P B n c (execOp ev o) (.fn f l) []:=by
 have hf':first=#[]:=by apply Array.ext';simpa using hf
 subst hf'
 have hr:=K7 hρ h
 have e:(caps.toList.map ev).toArray=caps.map ev:=by apply Array.ext';simp
 have hv:=Bo.fn (c:=c) f hr
 rw [e] at hv
 exact .still g (by simp [execOp,ho,Instr.makeFunc]) hv
end
end Go.Proofs.YtkdodbfnocdkdaaGreatDoor
set_option linter.unusedVariables false
set_option linter.unusedSimpArgs false
namespace Go.Proofs.YtkdodbfnocdkdaaGreatDoor
open Go.RowKit
section
variable {P:Program} {B n:Nat} {c:Cx} {ev:Operand→Value} {ρ:Operand→Option AV} {look:Nat→Option Be} {o:Oper}
theorem eS (off:Nat):∀(l:List Value) (k:Nat) (cs:Array Value),off+k+l.length≤cs.size→
  (l.zipIdx k).foldl (fun cs p=>cs.setIfInBounds (off+p.2) p.1) cs=(cs.toList.take (off+k)++l++cs.toList.drop (off+k+l.length)).toArray
 |[],k,cs,h=>by simp
 |v::r,k,cs,h=>by
  simp only [List.length_cons] at h
  rw [List.zipIdx_cons,List.foldl_cons]
  have ih:=eS off r (k+1) (cs.setIfInBounds (off+k) v) (by simp;omega)
  simp only [Nat.zero_add] at ih ⊢
  rw [ih]
  have e:=list_seg_step cs.toList (off+k) v r (by simp;omega)
  simp only [List.length_cons]
  rw [← e]
  simp [Array.toList_setIfInBounds,Nat.add_assoc]
theorem gF (off:Nat) (v cs:Array Value) (h:off+v.size≤cs.size):
  v.zipIdx.foldl (fun cs (c,j)=>cs.setIfInBounds (off+j) c) cs=(cs.toList.take off++v.toList++cs.toList.drop (off+v.size)).toArray:=by
 rw [← Array.foldl_toList]
 have:=eS off v.toList 0 cs (by simpa using h)
 simpa using this
inductive r9 (c:Cx):List (Nat×AV)→List (Nat×Value)→Prop
 |nil:r9 c [] []
 |cons {i:Nat} {x:AV} {v:Value} {xs:List (Nat×AV)} {vs:List (Nat×Value)} (h:Bo c x v) (t:r9 c xs vs):r9 c ((i,x)::xs) ((i,v)::vs)
theorem U6 {place:Nat→Option (Nat×Nat)} {l:List (Nat×AV)} {l':List (Nat×Value)} (hl:r9 c l l'):∀{zs cs:List AV} {vs:List Value},Bm c zs vs→Kl place zs l=some cs→∃us,Instr.fill place vs.toArray l'=some us.toArray∧Bm c cs us:=by
 induction hl with
 |nil=>intro zs cs vs hr h;simp only [Kl,Option.some.injEq] at h;subst h;exact ⟨vs,rfl,hr⟩
 |cons hx ht ih=>
  rename_i i x v xs vs'
  intro zs cs vs hr h
  unfold Kl at h
  split at h
  ·rename_i off size cs' hp hc
   cases hq:(Nat.beq cs'.length size && Nat.ble (off+size) zs.length) with
   |false=>simp [hq] at h
   |true=>
    simp only [hq,cond_true] at h
    simp only [Bool.and_eq_true] at hq
    have hcr:=Il hx hc
    have h1:v.cells.size=size:=by have:=hcr.length;simp at this;rw [← this];exact Nat.eq_of_beq_eq_true hq.1
    have h2:off+size≤vs.length:=by rw [← hr.length];exact Nat.le_of_ble_eq_true hq.2
    obtain ⟨us,hu,hur⟩:=ih (eP hr hcr off) h
    refine ⟨us,?_,hur⟩
    unfold Instr.fill
    have hf:=gF off v.cells vs.toArray (by simpa [h1] using h2)
    have hcond:(decide (v.cells.size≠size)||decide (off+v.cells.size>vs.toArray.size))=false:=by simp [h1];omega
    simp only [hp,hcond]
    simp only [Bool.false_eq_true,if_false]
    rw [hf]
    simpa using hu
  ·cases h
theorem R9:∀{l:List (Nat×Operand)},(∀p∈l,∀y,ρ p.2=some y→Bo c y (ev p.2))→∀{ys:List (Nat×AV)},H9 ρ l=some ys→r9 c ys (l.map fun p=>(p.1,ev p.2))
 |[],_,ys,h=>by simp only [H9,Option.some.injEq] at h;subst h;exact .nil
 |(i,x)::r,hρ,ys,h=>by
  unfold H9 at h
  cases h1:ρ x with
  |none=>simp [h1] at h
  |some v=>
   cases h2:H9 ρ r with
   |none=>simp [h1,h2] at h
   |some vs=>
    simp only [h1,h2,Option.some.injEq] at h
    subst h
    exact .cons (hρ (i,x) (by simp) v h1) (R9 (fun p hp=>hρ p (by simp [hp])) h2)
theorem run_places:∀{fs:List Field} {pl:List (Nat×Nat)},placesOf P fs=some pl→∀w,(fs.mapM fun f=>do pure (f.offset,← sizeOf f.type):Sem (List (Nat×Nat))).run P w=.ok pl w
 |[],pl,h,w=>by simp only [placesOf,Option.some.injEq] at h;subst h;simp
 |f::r,pl,h,w=>by
  unfold placesOf at h
  cases h1:Df P f.type with
  |none=>simp [h1] at h
  |some k=>
   cases h2:placesOf P r with
   |none=>simp [h1,h2] at h
   |some l=>
    simp only [h1,h2,Option.some.injEq] at h
    subst h
    have:=run_places h2 w
    simp only [List.mapM_cons,Sem.run_bind,Dk h1,this,Result.andThen_ok,Sem.run_pure]
theorem xQ {t:TypeId} {zs:List AV} (h:(Gv P t).bind G0=some (.agg zs)) (c:Cx):∃z vs,Gv P t=some z∧z.cells=vs.toArray∧Bm c zs vs:=by
 obtain ⟨z,hz,hv⟩:=Option.bind_eq_some_iff.1 h
 have:=Jj hv c
 cases this with
 |agg hr=>rename_i vs;exact ⟨_,vs,hz,rfl,hr⟩
theorem xT (g:Good B c) {t:TypeId} {parts:Array (Nat×Operand)} (ho:o.op=.build t parts) (hρ:∀p∈parts.toList,∀y,ρ p.2=some y→Bo c y (ev p.2)) {ys:List (Nat×AV)} (hp:H9 ρ parts.toList=some ys) {v:AV} {d:Wr} (h:iH P t ys=some (v,d)):Gs P B n c (execOp ev o) v d:=by
 have hpr:=R9 hρ hp
 have epl:(parts.map fun (i,x)=>(i,ev x)).toList=parts.toList.map fun p=>(p.1,ev p.2):=by simp
 unfold iH at h
 split at h
 ·rename_i zs hz
  obtain ⟨z,vs,h1,h2,h3⟩:=xQ hz c
  split at h
  ·rename_i fs hu
   split at h
   ·rename_i pl hpl
    obtain ⟨cs,hcs,he⟩:=Option.map_eq_some_iff.1 h
    simp only [Prod.mk.injEq] at he
    obtain ⟨rfl,rfl⟩:=he
    obtain ⟨us,hf,hr⟩:=U6 hpr h3 hcs
    refine .still g (v':=.agg us.toArray) ?_ (.agg hr)
    have hm:(fs.mapM fun f=>do pure (f.offset,← sizeOf f.type):Sem (Array (Nat×Nat))).run P c.w=.ok pl.toArray c.w:=by
     rw [Array.mapM_eq_mapM_toList,map_eq_pure_bind]
     have:=run_places hpl c.w
     simp only [Sem.run_bind,this,Result.andThen_ok,Sem.run_pure]
    simp only [execOp,ho,Instr.build,Sem.run_bind,Li h1,Result.andThen_ok,run_underlying hu,hm,h2,epl]
    have:(fun i:Nat=>pl.toArray[i]?)=fun i:Nat=>pl[i]?:=by funext i;simp
    simp only [this,hf,Sem.run_pure,Result.andThen_ok]
   ·cases h
  ·rename_i len e hu
   split at h
   ·rename_i sz hs
    obtain ⟨cs,hcs,he⟩:=Option.map_eq_some_iff.1 h
    simp only [Prod.mk.injEq] at he
    obtain ⟨rfl,rfl⟩:=he
    obtain ⟨us,hf,hr⟩:=U6 hpr h3 hcs
    refine .still g (v':=.agg us.toArray) ?_ (.agg hr)
    simp only [execOp,ho,Instr.build,Sem.run_bind,Li h1,Result.andThen_ok,run_underlying hu,Dk hs,h2,epl,hf,Sem.run_pure]
   ·cases h
  ·cases h
 ·cases h
theorem Pv (f:Nat→Value):(Array.range 0).map f=([]:List Value).toArray:=by apply Array.ext';simp
theorem Oy {zs:List AV} {vs:List Value} (h:Bm c zs vs):∀k,Bm c (rep zs k) (rep vs k)
 |0=> .nil
 |k+1=>h.append (Oy h k)
theorem J8 {α:Type} (zs:List α):∀k,(rep zs k).length=k*zs.length
 |0=>by simp [rep]
 |k+1=>by simp [rep,J8 zs k,Nat.succ_mul];omega
theorem kZ {α:Type} (zs:List α) (hz:0<zs.length):∀(k i:Nat),i<k*zs.length→(rep zs k)[i]?=zs[i % zs.length]?
 |0,i,h=>by simp at h
 |k+1,i,h=>by
  rw [Nat.succ_mul] at h
  unfold rep
  by_cases hi:i<zs.length
  ·rw [List.getElem?_append_left hi,Nat.mod_eq_of_lt hi]
  ·rw [List.getElem?_append_right (by omega),kZ zs hz k (i-zs.length) (by omega),Nat.mod_eq_sub_mod (by omega:zs.length≤i)]
theorem R3 (z:Array Value) (hz:0<z.size) (k:Nat):(Array.range (k*z.size)).map (z[· % z.size]!)=(rep z.toList k).toArray:=by
 apply Array.ext'
 apply List.ext_getElem?
 intro i
 have hl:=J8 z.toList k
 simp only [Array.toList_map,Array.toList_range,List.getElem?_map]
 by_cases hi:i<k*z.size
 ·have h2:=kZ z.toList (by simpa using hz) k i (by simpa using hi)
  simp only [Array.length_toList] at h2
  rw [h2,List.getElem?_range hi]
  have hm:i % z.size<z.size:=Nat.mod_lt _ hz
  simp [hm]
 ·rw [List.getElem?_eq_none (by simpa using hi),List.getElem?_eq_none (by simp [hl];omega)];rfl
theorem Ku (z:Array Value) (hz:0<z.size) (k:Nat):(Builtin.zeroCells z k).toList=rep z.toList k:=by
 unfold Builtin.zeroCells;rw [R3 z hz k]
theorem Lv {e:TypeId} {zs:List AV} (h:(Gv P e).bind (fun z=>(G0 z).bind C4)=some zs) (c:Cx):∃z,Gv P e=some z∧Bm c zs z.cells.toList:=by
 obtain ⟨z,hz,h⟩:=Option.bind_eq_some_iff.1 h
 obtain ⟨x,hx,h⟩:=Option.bind_eq_some_iff.1 h
 exact ⟨z,hz,Il (Jj hx c) h⟩
theorem dR {e:TypeId} {zs:List AV} (h:(Gv P e).bind jL=some zs) (c:Cx):∃z,Gv P e=some z∧Bm c zs z.cells.toList:=by
 obtain ⟨z,hz,h⟩:=Option.bind_eq_some_iff.1 h
 unfold jL at h
 split at h
 ·cases h;exact ⟨_,hz,Bm.one (.Es _)⟩
 ·obtain ⟨x,hx,h⟩:=Option.bind_eq_some_iff.1 h
  exact ⟨z,hz,Il (Jj hx c) h⟩
theorem Uc {arr:Array Value} {T:TypeId} {cells:List AV} {esz k cap cap':Nat} {ex:Bool} (hs:cap'*esz≤arr.size) (hk:k≤cap) (hc:cap≤cap') (he:ex=true→cap'=cap) (hm:cap'≤maxLen):
  Bo (c.new n arr T cells) (.sl n 0 esz k cap ex) (.slice (some ⟨c.w.heap.size,0,none⟩) k cap'):=by
 have h:(c.new n arr T cells).f n=c.w.heap.size:=by simp [Cx.new]
 have:=Bo.sl (c:=c.new n arr T cells) (id:=n) (off:=0) (esz:=esz) (n:=k) (cap:=cap) (cap':=cap') (ex:=ex) (arr:=arr) (T:=T) (.inr rfl) (by rw [h];exact Pk _ _) (by simpa using hs) hk hc he hm
 rwa [h] at this
theorem V8 (g:Good B c) (hn:¬c.al n) {t:TypeId} {len:Nat} {parts:Array (Nat×Operand)} (ho:o.op=.buildSlice t len parts) (hρ:∀p∈parts.toList,∀y,ρ p.2=some y→Bo c y (ev p.2)) {ys:List (Nat×AV)} (hp:H9 ρ parts.toList=some ys) {v:AV} {d:Wr} (h:Nb P n t len ys=some (v,d)):Gs P B n c (execOp ev o) v d:=by
 have hpr:=R9 hρ hp
 have epl:(parts.map fun (i,x)=>(i,ev x)).toList=parts.toList.map fun p=>(p.1,ev p.2):=by simp
 unfold Nb at h
 split at h
 ·rename_i e hu
  split at h
  ·rename_i sz zs hs hz
   cases hq:(Nat.ble (len*sz) 16777216 && Nat.beq zs.length sz && Nat.ble 1 sz) with
   |false=>simp [hq] at h
   |true=>
    simp only [hq,cond_true] at h
    simp only [Bool.and_eq_true] at hq
    obtain ⟨⟨q1,q2⟩,q3⟩:=hq
    have q1:=Nat.le_of_ble_eq_true q1
    have q2:=Nat.eq_of_beq_eq_true q2
    have q3:=Nat.le_of_ble_eq_true q3
    split at h
    ·rename_i cs hcs
     simp only [Option.some.injEq,Prod.mk.injEq] at h
     obtain ⟨rfl,rfl⟩:=h
     obtain ⟨z,hz1,hz2⟩:=dR hz c
     have hzl:z.cells.size=sz:=by have:=hz2.length;simp at this;omega
     obtain ⟨us,hf,hr⟩:=U6 hpr (Oy hz2 len) hcs
     have hul:us.length=len*sz:=by
      have hal:∀{l:List (Nat×AV)} {a b:List AV},Kl (fun i=>some (i*sz,sz)) a l=some b→b.length=a.length:=by
       intro l
       induction l with
       |nil=>intro a b h;simp only [Kl,Option.some.injEq] at h;rw [h]
       |cons p r ih=>
        obtain ⟨i,x⟩:=p
        intro a b h
        unfold Kl at h
        split at h
        ·rename_i off size cs' hp hc
         cases hq:(Nat.beq cs'.length size && Nat.ble (off+size) a.length) with
         |false=>simp [hq] at h
         |true=>
          simp only [hq,cond_true] at h
          simp only [Bool.and_eq_true] at hq
          have e1:=Nat.eq_of_beq_eq_true hq.1
          have e2:=Nat.le_of_ble_eq_true hq.2
          rw [ih h];simp [Dh];omega
        ·cases h
      rw [← hr.length,hal hcs,J8,q2]
     refine .made g hn (arr:=us.toArray) (rest:=[]) (by simp) hr ?_ (Uc (by simp [hul]) (Nat.le_refl _) (Nat.le_refl _) (fun _=>rfl) (by unfold maxLen;have:len≤len*sz:=Nat.le_mul_of_pos_right _ q3;omega))
     have hnot:¬(len*sz>2 ^ 24):=by omega
     simp only [execOp,ho,Instr.buildSlice,Sem.run_bind,run_underlying hu,Result.andThen_ok,Dk hs,hnot,if_false,Sem.run_pure]
     by_cases h0:len*sz=0
     ·have hl0:len=0:=by
       rcases Nat.mul_eq_zero.1 h0 with h|h
       ·exact h
       ·omega
      subst hl0
      simp only [rep] at hf
      simp only [Nat.zero_mul,if_true,Sem.run_bind,Sem.run_pure,Result.andThen_ok]
      have e0:(Array.range 0).map ((#[]:Array Value)[· % (#[]:Array Value).size]!)=([]:List Value).toArray:=Pv _
      rw [Pv,epl,hf]
      simp [newRow,newObj];rfl
     ·have hc:=R3 z.cells (by omega) len
      rw [hzl] at hc
      simp only [h0,if_false,Sem.run_bind,Li hz1,Result.andThen_ok,Sem.run_pure,hzl,hc,epl,hf]
      simp [newRow,newObj];rfl
    ·cases h
  ·cases h
 ·cases h
theorem Y5 (g:Good B c) (hn:¬c.al n) {t:TypeId} {l k:Operand} (ho:o.op=.makeSlice t l k) {x y v:AV} {d:Wr} (hx:Bo c x (ev l)) (hy:Bo c y (ev k)) (h:Pt P n t x y=some (v,d)):Gs P B n c (execOp ev o) v d:=by
 unfold Pt at h
 split at h
 ·rename_i x y
  have el:ev l=.int .i64 x:=by generalize ev l=u at hx;cases hx;rfl
  have ek:ev k=.int .i64 y:=by generalize ev k=u at hy;cases hy;rfl
  split at h
  ·rename_i e hu
   split at h
   ·rename_i sz by_ zs hs hb hz
    cases hq:(decide (0≤x) && decide (x≤y) && decide (y*(by_:Int)≤140737488355328) && decide (y≤4611686018427387904) && Nat.beq zs.length sz && Nat.ble 1 sz) with
    |false=>simp [hq] at h
    |true=>
     simp only [hq,cond_true,Option.some.injEq,Prod.mk.injEq] at h
     obtain ⟨rfl,rfl⟩:=h
     simp only [Bool.and_eq_true,decide_eq_true_eq] at hq
     obtain ⟨⟨⟨⟨⟨q1,q2⟩,q3⟩,q4⟩,q5⟩,q6⟩:=hq
     have q5:=Nat.eq_of_beq_eq_true q5
     have q6:=Nat.le_of_ble_eq_true q6
     obtain ⟨z,hz1,hz2⟩:=Lv hz c
     have hzl:z.cells.size=sz:=by have:=hz2.length;simp at this;omega
     obtain ⟨i,hi,hib⟩:=oY hb c.w
     have hc:=R3 z.cells (by omega) y.toNat
     rw [hzl] at hc
     have ww:∀a:Int,0≤a→a≤4611686018427387904→IntKind.i64.wrap a=a:=fun a h1 h2=>IntWalk.i64_in a (by omega)
     refine .made g hn (arr:=(rep z.cells.toList y.toNat).toArray) (vs:=rep z.cells.toList y.toNat) (rest:=[]) (by simp) (Oy hz2 _) ?_ (Uc (by simp [J8,hzl]) (by omega) (Nat.le_refl _) (fun _=>rfl) (by unfold maxLen;omega))
     have t1:(decide (y<0)||decide ((by_:Int)*y>2 ^ 48))=false:=by
      rw [Int.mul_comm];simp;omega
     have t2:¬(y*(by_:Int)<0):=by have:=Int.mul_nonneg (by omega:0≤y) (by omega:0≤(by_:Int));omega
     simp only [execOp,ho,Instr.makeSlice,Sem.run_bind,run_underlying hu,Result.andThen_ok,el,ek,asInt,asIntOf,Sem.run_pure,hi,hib,ww x q1 (by omega),ww y (by omega) q4,t1]
     have c1:(false||decide (x<0)||decide (x>y))=false:=by simp;omega
     simp only [c1,Bool.false_eq_true,if_false,Sem.run_bind,Sem.run_pure,Result.andThen_ok,run_askRoom,Dk hs]
     by_cases h0:y.toNat*sz=0
     ·have hl0:y.toNat=0:=by
       rcases Nat.mul_eq_zero.1 h0 with h|h
       ·exact h
       ·omega
      simp only [hl0,Nat.zero_mul,if_true,Sem.run_pure,Result.andThen_ok,rep,Pv]
      simp [newRow,newObj];rfl
     ·simp only [h0,if_false,Sem.run_bind,Li hz1,Result.andThen_ok,Sem.run_pure,hzl,hc]
      simp [newRow,newObj];rfl
   ·cases h
  ·cases h
 ·cases h
end
end Go.Proofs.YtkdodbfnocdkdaaGreatDoor
