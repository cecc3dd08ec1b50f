/- A part. -/
import Derived.Test.YtmechmjjcgdpdaaGreatDoorBase
import Derived.Test.YtmechmjjcgdpdaaGreatDoorLax
import Derived.Orders
import Derived.Below
import Derived.Laws.CopyRow
import Derived.Laws.Cells
import Derived.Laws.Tables
import Derived.Laws.Entries
import Derived.Laws.World
import Derived.Deep.Upon
import Derived.Laws.IdiomStrings
import Derived.Room.Entries
set_option linter.unusedVariables false
set_option linter.unusedSimpArgs false
namespace Go.Proofs.YtmechmjjcgdpdaaGreatDoor
inductive AV where
 |El
 |sc (v:Value)
 |agg (cs:List AV)
 |Bn (vs:List AV)
 |Jk
 |ptr (id off:Nat)
 |B6 (cs:List AV) (off:Nat)
 |Bp
 |Dh (n:Nat) (cs:List AV) (ex:Bool)
 |sl (id off esz n cap:Nat) (ex:Bool)
 |fn (f:FuncId) (cs:List AV)
 |ifc (p:Bool)
 deriving Inhabited
structure Bk where
 cells:List AV
 ty:TypeId
 deriving Inhabited
def Lm:Value→Bool
 |.bool _|.int _ _|.string _|.float _ _|.slice _ _ _=>true
 |_=>false
structure Cx where
 w:World
 f:Nat→Nat
 al:Nat→Prop
 M:Nat→Option Bk
 no:Nat→Prop
def Cx.own (c:Cx) (b:Nat):Prop:=∃id Bd,c.M id=some Bd∧c.f id=b
def Cx.Bs (c:Cx) (b:Nat):Prop:=b<c.w.heap.size∧¬c.own b∧¬c.no b
def E4 (w:World) (b o:Nat) (vs:List Value):Prop:=∀k v,vs[k]?=some v→w.cell? ⟨b,o+k,none⟩=some v
mutual
inductive A9 (c:Cx):AV→Value→Prop
 |El (v:Value):A9 c .El v
 |sc (v:Value) (h:Lm v=true):A9 c (.sc v) v
 |agg {cs:List AV} {vs:List Value} (h:Be c cs vs):A9 c (.agg cs) (.agg vs.toArray)
 |Bn {cs:List AV} {vs:List Value} (h:Be c cs vs):A9 c (.Bn cs) (.tuple vs.toArray)
 |Jk:A9 c .Jk (.pointer none)
 |ptr {id:Nat} (h:c.al id) (off:Nat):A9 c (.ptr id off) (.pointer (some ⟨c.f id,off,none⟩))
 |B6 {b o:Nat} {cs:List AV} {vs:List Value} (hb:c.Bs b) (h:Be c cs vs) (hc:E4 c.w b o vs) (off:Nat):A9 c (.B6 cs off) (.pointer (some ⟨b,o+off,none⟩))
 |Bp:A9 c .Bp (.slice none 0 0)
 |Dy (a:Option Addr) (cap:Nat) (ex:Bool) (he:ex=true→cap=0) (hm:cap≤maxLen) (hn:a=none→cap=0):A9 c (.Dh 0 [] ex) (.slice a 0 cap)
 |Dh {b o n:Nat} {cs:List AV} {vs:List Value} {cap:Nat} {ex:Bool} (hb:c.Bs b) (h:Be c cs vs) (hc:E4 c.w b o vs) (hn:n≤cap) (he:ex=true→cap=n) (hm:cap≤maxLen):A9 c (.Dh n cs ex) (.slice (some ⟨b,o,none⟩) n cap)
 |sl {id off esz n cap cap':Nat} {ex:Bool} {arr:Array Value} {T:TypeId} (h:c.al id) (hb:c.w.heap[c.f id]?=some (.cells arr T)) (hs:off+cap'*esz≤arr.size) (hn:n≤cap) (hc:cap≤cap') (he:ex=true→cap'=cap) (hm:cap'≤maxLen):A9 c (.sl id off esz n cap ex) (.slice (some ⟨c.f id,off,none⟩) n cap')
 |fn (f:FuncId) {cs:List AV} {vs:List Value} (h:Be c cs vs):A9 c (.fn f cs) (.func (.func f) #[] vs.toArray)
 |N5:A9 c (.ifc true) .nilIface
 |Pm (u:TypeId) (v:Value):A9 c (.ifc false) (.iface u v)
inductive Be (c:Cx):List AV→List Value→Prop
 |nil:Be c [] []
 |cons {x:AV} {v:Value} {xs:List AV} {vs:List Value} (h:A9 c x v) (t:Be c xs vs):Be c (x::xs) (v::vs)
end
def dr (w:World):Nat:=bif lax then 0 else w.drawn
theorem Lk {w w':World} (h:w.drawn≤w'.drawn):dr w≤dr w':=by unfold dr;cases lax<;>simp [h]
theorem lQ (hx:lax=false) {w w':World} (h:dr w≤dr w'):w.drawn≤w'.drawn:=by unfold dr at h;rw [hx] at h;exact h
structure Step (c c':Cx):Prop where
 os:c'.w.os=c.w.os
 tape:c'.w.tape=c.w.tape
 output:c'.w.output=c.w.output
 size:c.w.heap.size≤c'.w.heap.size
 Bd:∀b,b<c.w.heap.size→¬c.own b→c'.w.heap[b]?=c.w.heap[b]?
 own:∀b,b<c.w.heap.size→c'.own b→c.own b
 f:∀id,c.al id→c'.f id=c.f id
 al:∀id,c.al id→c'.al id
 no:∀b,c'.no b↔c.no b
 Y9:∀(b:Nat) (arr:Array Value) (T:TypeId),c.w.heap[b]?=some (.cells arr T)→∃arr':Array Value,c'.w.heap[b]?=some (.cells arr' T)∧arr'.size=arr.size
 drawn:dr c.w≤dr c'.w
theorem Step.refl (c:Cx):Step c c:=⟨rfl,rfl,rfl,Nat.le_refl _,fun _ _ _=>rfl,fun _ _ h=>h,fun _ _=>rfl,fun _ h=>h,fun _=>Iff.rfl,fun b arr T h=>⟨arr,h,rfl⟩,Nat.le_refl _⟩
theorem Step.trans {a b c:Cx} (h:Step a b) (k:Step b c):Step a c where
 os:=k.os.trans h.os
 tape:=k.tape.trans h.tape
 output:=k.output.trans h.output
 size:=Nat.le_trans h.size k.size
 Bd:=fun x hx hn=>(k.Bd x (Nat.lt_of_lt_of_le hx h.size) (fun ho=>hn (h.own x hx ho))).trans (h.Bd x hx hn)
 own:=fun x hx ho=>h.own x hx (k.own x (Nat.lt_of_lt_of_le hx h.size) ho)
 f:=fun id hi=>(k.f id (h.al id hi)).trans (h.f id hi)
 al:=fun id hi=>k.al id (h.al id hi)
 no:=fun b=>(k.no b).trans (h.no b)
 Y9:=fun b arr T hb=>by
  obtain ⟨a1,h1,s1⟩:=h.Y9 b arr T hb
  obtain ⟨a2,h2,s2⟩:=k.Y9 b a1 T h1
  exact ⟨a2,h2,s2.trans s1⟩
 drawn:=Nat.le_trans h.drawn k.drawn
theorem Step.Bs {c c':Cx} (h:Step c c') {b:Nat} (hb:c.Bs b):c'.Bs b:=⟨Nat.lt_of_lt_of_le hb.1 h.size,fun ho=>hb.2.1 (h.own b hb.1 ho),fun hn=>hb.2.2 ((h.no b).1 hn)⟩
theorem Step.mH {c c':Cx} (h:Step c c') {b o:Nat} {vs:List Value} (hb:c.Bs b) (hc:E4 c.w b o vs):E4 c'.w b o vs:=by
 intro k v hv
 have:=hc k v hv
 unfold World.cell? at this ⊢
 rw [h.Bd b hb.1 hb.2.1];exact this
mutual
theorem A9.step {c c':Cx} (s:Step c c') {x:AV} {v:Value}:A9 c x v→A9 c' x v
 |.El v=> .El v
 |.sc v h=> .sc v h
 |.agg h=> .agg (Be.step s h)
 |.Bn h=> .Bn (Be.step s h)
 |.Jk=> .Jk
 |.ptr (id:=id) h off=>s.f id h ▸ A9.ptr (s.al id h) off
 |.B6 hb h hc off=> .B6 (s.Bs hb) (Be.step s h) (s.mH hb hc) off
 |.Bp=> .Bp
 |.Dy a cap ex he hm hn=> .Dy a cap ex he hm hn
 |.Dh hb h hc hn he hm=> .Dh (s.Bs hb) (Be.step s h) (s.mH hb hc) hn he hm
 |.sl (id:=id) (off:=off) (arr:=arr) (T:=T) h hb hs hn hc he hm=>by
  obtain ⟨a',h',hz⟩:=s.Y9 _ arr T hb
  rw [← s.f id h]
  exact .sl (s.al id h) (by rw [s.f id h];exact h') (by rw [hz];exact hs) hn hc he hm
 |.fn f h=> .fn f (Be.step s h)
 |.N5=> .N5
 |.Pm u v=> .Pm u v
theorem Be.step {c c':Cx} (s:Step c c') {xs:List AV} {vs:List Value}:Be c xs vs→Be c' xs vs
 |.nil=> .nil
 |.cons h t=> .cons (A9.step s h) (Be.step s t)
end
theorem Be.length {c:Cx} {xs:List AV} {vs:List Value} (h:Be c xs vs):xs.length=vs.length:=by
 induction xs generalizing vs with
 |nil=>cases h;rfl
 |cons x xs ih=>cases h with|cons h t=>simp [ih t]
theorem Be.get {c:Cx} {xs:List AV} {vs:List Value} (h:Be c xs vs) {k:Nat} {x:AV} (hk:xs[k]?=some x):∃v,vs[k]?=some v∧A9 c x v:=by
 induction xs generalizing vs k with
 |nil=>simp at hk
 |cons y xs ih=>
  cases h with
  |cons h t=>
   cases k with
   |zero=>simp at hk;subst hk;exact ⟨_,rfl,h⟩
   |succ k=>simpa using ih t (by simpa using hk)
theorem Be.Alg {c:Cx} {xs:List AV} {vs:List Value} (hl:xs.length=vs.length) (h:∀(k:Nat) (x:AV) (v:Value),xs[k]?=some x→vs[k]?=some v→A9 c x v):Be c xs vs:=by
 induction xs generalizing vs with
 |nil=>cases vs with|nil=>exact .nil|cons v vs=>simp at hl
 |cons x xs ih=>
  cases vs with
  |nil=>simp at hl
  |cons v vs=>exact .cons (h 0 x v rfl rfl) (ih (by simpa using hl) fun k y u hy hu=>h (k+1) y u (by simpa using hy) (by simpa using hu))
theorem Be.append {c:Cx} {xs ys:List AV} {vs us:List Value} (h:Be c xs vs) (k:Be c ys us):Be c (xs++ys) (vs++us):=by
 induction xs generalizing vs with
 |nil=>cases h;exact k
 |cons x xs ih=>cases h with|cons h t=>exact .cons h (ih t)
theorem Be.take {c:Cx} {xs:List AV} {vs:List Value} (h:Be c xs vs) (n:Nat):Be c (xs.take n) (vs.take n):=by
 induction n generalizing xs vs with
 |zero=>simp;exact .nil
 |succ n ih=>
  cases h with
  |nil=>exact .nil
  |cons h t=>exact .cons h (ih t)
theorem Be.drop {c:Cx} {xs:List AV} {vs:List Value} (h:Be c xs vs) (n:Nat):Be c (xs.drop n) (vs.drop n):=by
 induction n generalizing xs vs with
 |zero=>exact h
 |succ n ih=>
  cases h with
  |nil=>exact .nil
  |cons h t=>exact ih t
theorem Be.set {c:Cx} {xs:List AV} {vs:List Value} (h:Be c xs vs) (k:Nat) {x:AV} {v:Value} (hx:A9 c x v):Be c (xs.set k x) (vs.set k v):=by
 induction xs generalizing vs k with
 |nil=>cases h;exact .nil
 |cons y xs ih=>
  cases h with
  |cons h t=>
   cases k with
   |zero=>exact .cons hx t
   |succ k=>exact .cons h (ih t k)
theorem Be.one {c:Cx} {x:AV} {v:Value} (h:A9 c x v):Be c [x] [v]:=.cons h .nil
structure Good (B:Nat) (c:Cx):Prop where
 hB:B≤c.w.heap.size
 low:∀id Bd,c.M id=some Bd→B≤c.f id∧c.al id
 Bd:∀id Bd,c.M id=some Bd→∃(arr:Array Value) (vs rest:List Value),c.w.heap[c.f id]?=some (.cells arr Bd.ty)∧arr.toList=vs++rest∧Be c Bd.cells vs
 Lj:∀b,c.no b→b<B
 inj:∀id id' Bd blk',c.M id=some Bd→c.M id'=some blk'→c.f id=c.f id'→id=id'
theorem Ck {w:World} {b:Nat} {o:Obj} (h:w.heap[b]?=some o):b<w.heap.size:=by
 rcases Nat.lt_or_ge b w.heap.size with h'|h'
 ·exact h'
 ·rw [Array.getElem?_eq_none h'] at h;cases h
end Go.Proofs.YtmechmjjcgdpdaaGreatDoor
set_option linter.unusedVariables false
set_option linter.unusedSimpArgs false
namespace Go.Proofs.YtmechmjjcgdpdaaGreatDoor
def E5:List (Nat×AV)→Nat→AV
 |[],_=> .El
 |(j,v)::r,i=>bif Nat.beq j i then v else E5 r i
def uQ:List (Nat×AV)→Nat→AV→List (Nat×AV)
 |[],i,v=>[(i,v)]
 |(j,u)::r,i,v=>bif Nat.beq j i then (i,v)::r else (j,u)::uQ r i v
def Ao:List (Nat×Option Bk)→Nat→Option Bk
 |[],_=>none
 |(j,v)::r,i=>bif Nat.beq j i then v else Ao r i
def zK:List (Nat×Option Bk)→Nat→Option Bk→List (Nat×Option Bk)
 |[],i,v=>[(i,v)]
 |(j,u)::r,i,v=>bif Nat.beq j i then (i,v)::r else (j,u)::zK r i v
def X6 (m:List (Nat×Option Bk)):List (Nat×Option Bk)→List (Nat×Option Bk)
 |[]=>m
 |(i,v)::r=>X6 (zK m i v) r
def Ui:Value→Option AV
 |.slice none 0 0=>some .Bp
 |.pointer none=>some .Jk
 |.nilIface=>some (.ifc true)
 |v=>bif Lm v then some (.sc v) else none
def Kw:List Value→Option (List AV)
 |[]=>some []
 |v::vs=>match Ui v,Kw vs with|some x,some xs=>some (x::xs)|_,_=>none
def Gn:Value→Option AV
 |.agg cs=>(Kw cs.toList).map .agg
 |.tuple cs=>(Kw cs.toList).map .Bn
 |v=>Ui v
def Mu:AV→Option Value
 |.sc v=>some v
 |.Jk=>some (.pointer none)
 |.Bp=>some (.slice none 0 0)
 |_=>none
def I4:List AV→Option (List Value)
 |[]=>some []
 |v::vs=>match Mu v,I4 vs with|some x,some xs=>some (x::xs)|_,_=>none
def O0:AV→Option Value
 |.agg cs=>(I4 cs).map (fun l=> .agg l.toArray)
 |.Bn cs=>(I4 cs).map (fun l=> .tuple l.toArray)
 |x=>Mu x
def B7:AV→Bool
 |.El|.agg _|.Bn _=>false
 |_=>true
def C3:AV→Option (List AV)
 |.El|.Bn _=>none
 |.agg cs=>some cs
 |x=>some [x]
def B4 (P:Program) {α:Type}:Sem α→Option α
 |.pure a=>some a
 |.program k=>B4 P (k P)
 |_=>none
def Df (P:Program) (t:TypeId):Option Nat:=(P.info? t).map (·.size)
def Ku (P:Program) (t:TypeId):Option Nat:=(P.info? t).map (·.bytes)
def Fy (P:Program) (t:TypeId):Option Value:=(P.info? t).bind (·.zero)
def It:TypeDesc→Bool
 |.struct _|.array _ _=>true
 |_=>false
def apart (P:Program) (t:TypeId) (cs:List AV) (off:Nat):Option AV:=
 match P.underlying t with
 |none=>none
 |some d=>
  bif It d then
   match Df P t with
   |none=>none
   |some n=>bif Nat.ble (off+n) cs.length then some (.agg ((cs.drop off).take n)) else none
  else cs[off]?
def C9 (cells:List AV) (off:Nat) (new:List AV):List AV:=cells.take off++new++cells.drop (off+new.length)
def elemAt (esz:Nat) (cs:List AV) (i:Nat):List AV:=(cs.drop (i*esz)).take esz
abbrev Wr:=List (Nat×Option Bk)
abbrev Ht:=Option (AV×Wr)
def G4 (P:Program) (look:Nat→Option Bk) (t:TypeId):AV→Ht
 |.ptr id off=>match look id with|some b=>(apart P t b.cells off).map (·,[])|none=>none
 |.B6 cs off=>(apart P t cs off).map (·,[])
 |_=>none
def Uz (P:Program) (look:Nat→Option Bk) (t:TypeId) (a x:AV):Ht:=
 match a,C3 x,Df P t with
 |.ptr id off,some cs,some sz=>
  match look id with
  |some b=>bif Nat.beq cs.length sz && Nat.ble (off+cs.length) b.cells.length && cs.all B7 then some (.El,[(id,some ⟨C9 b.cells off cs,b.ty⟩)]) else none
  |none=>none
 |_,_,_=>none
def kG (P:Program) (t:TypeId) (fi:Nat):AV→Ht
 |.ptr id off=>match P.underlying t with
  |some (.struct fs)=>match fs[fi]? with
   |some fd=>match Df P fd.type with
    |some (k+1)=>some (.ptr id (off+fd.offset),[])
    |_=>none
   |none=>none
  |_=>none
 |.B6 cs off=>match P.underlying t with
  |some (.struct fs)=>match fs[fi]? with
   |some fd=>match Df P fd.type with
    |some (k+1)=>some (.B6 cs (off+fd.offset),[])
    |_=>none
   |none=>none
  |_=>none
 |_=>none
def N4 (P:Program) (t:TypeId) (x i:AV):Ht:=
 match i with
 |.sc (.int _ z)=>
  match P.underlying t with
  |some (.slice e)=>match Df P e with
   |some sz=>match x with
    |.sl id off esz n cap ex=>bif decide (0≤z) && decide (z<(n:Int)) then some (.ptr id (off+z.toNat*sz),[]) else none
    |.Dh n cs ex=>bif decide (0≤z) && decide (z<(n:Int)) then some (.B6 (elemAt sz cs z.toNat) 0,[]) else none
    |_=>none
   |none=>none
  |some (.array len e)=>match Df P e with
   |some sz=>match x with
    |.ptr id off=>bif decide (0≤z) && decide (z<(len:Int)) then some (.ptr id (off+z.toNat*sz),[]) else none
    |.B6 cs off=>bif decide (0≤z) && decide (z<(len:Int)) then some (.B6 cs (off+z.toNat*sz),[]) else none
    |_=>none
   |none=>none
  |_=>none
 |_=>none
def aW (P:Program) (t:TypeId) (fi:Nat):AV→Ht
 |.agg cs=>match P.underlying t with
  |some (.struct fs)=>match fs[fi]? with
   |some fd=>(apart P fd.type cs fd.offset).map (·,[])
   |none=>none
  |_=>none
 |_=>none
def P1 (P:Program) (t:TypeId) (x i:AV):Ht:=
 match x,i with
 |.agg cs,.sc (.int _ z)=>match P.underlying t with
  |some (.array len e)=>match Df P e with
   |some sz=>bif decide (0≤z) && decide (z<(len:Int)) then (apart P e cs (z.toNat*sz)).map (·,[]) else none
   |none=>none
  |_=>none
 |_,_=>none
def Lg (place:Nat→Option (Nat×Nat)) (cells:List AV):List (Nat×AV)→Option (List AV)
 |[]=>some cells
 |(i,v)::rest=>
  match place i,C3 v with
  |some (off,size),some cs=>bif Nat.beq cs.length size && Nat.ble (off+size) cells.length then Lg place (C9 cells off cs) rest else none
  |_,_=>none
def Gq (ρ:Operand→Option AV):List (Nat×Operand)→Option (List (Nat×AV))
 |[]=>some []
 |(i,x)::r=>match ρ x,Gq ρ r with|some v,some l=>some ((i,v)::l)|_,_=>none
def opts (ρ:Operand→Option AV):List Operand→Option (List AV)
 |[]=>some []
 |x::r=>match ρ x,opts ρ r with|some v,some l=>some (v::l)|_,_=>none
def placesOf (P:Program):List Field→Option (List (Nat×Nat))
 |[]=>some []
 |f::r=>match Df P f.type,placesOf P r with|some n,some l=>some ((f.offset,n)::l)|_,_=>none
def gT (P:Program) (t:TypeId) (parts:List (Nat×AV)):Ht:=
 match (Fy P t).bind Gn with
 |some (.agg zs)=>match P.underlying t with
  |some (.struct fs)=>match placesOf P fs.toList with
   |some pl=>(Lg (fun i=>pl[i]?) zs parts).map (fun cs=>(.agg cs,[]))
   |none=>none
  |some (.array _ e)=>match Df P e with
   |some sz=>(Lg (fun i=>some (i*sz,sz)) zs parts).map (fun cs=>(.agg cs,[]))
   |none=>none
  |_=>none
 |_=>none
def rep {α:Type} (zs:List α):Nat→List α
 |0=>[]
 |n+1=>zs++rep zs n
def jP:Value→Option (List AV)
 |.nilFunc=>some [.El]
 |z=>(Gn z).bind C3
def Me (P:Program) (n:Nat) (t:TypeId) (len:Nat) (parts:List (Nat×AV)):Ht:=
 match P.underlying t with
 |some (.slice e)=>match Df P e,(Fy P e).bind jP with
  |some sz,some zs=>bif Nat.ble (len*sz) 16777216 && Nat.beq zs.length sz && Nat.ble 1 sz then
    match Lg (fun i=>some (i*sz,sz)) (rep zs len) parts with
    |some cs=>some (.sl n 0 sz len len true,[(n,some ⟨cs,e⟩)])
    |none=>none
   else none
  |_,_=>none
 |_=>none
def N7 (P:Program) (n:Nat) (t:TypeId) (l c:AV):Ht:=
 match l,c with
 |.sc (.int .i64 x),.sc (.int .i64 y)=>match P.underlying t with
  |some (.slice e)=>match Df P e,Ku P e,(Fy P e).bind (fun z=>(Gn z).bind C3) with
   |some sz,some by_,some zs=>bif decide (0≤x) && decide (x≤y) && decide (y*(by_:Int)≤140737488355328) && decide (y≤4611686018427387904) && Nat.beq zs.length sz && Nat.ble 1 sz then
     some (.sl n 0 sz x.toNat y.toNat true,[(n,some ⟨rep zs y.toNat,e⟩)])
    else none
   |_,_,_=>none
  |_=>none
 |_,_=>none
def cellsOf (look:Nat→Option Bk) (sz:Nat):AV→Option (Nat×List AV)
 |.Bp=>some (0,[])
 |.Dh n cs _=>bif Nat.beq cs.length (n*sz) then some (n,cs) else none
 |.sl id off esz n _ _=>match look id with
  |some b=>bif Nat.ble (off+n*sz) b.cells.length && Nat.beq esz sz then some (n,(b.cells.drop off).take (n*sz)) else none
  |none=>none
 |_=>none
def Pv (P:Program) (look:Nat→Option Bk) (n:Nat) (e:TypeId) (s x:AV):Ht:=
 match x with
 |.sc (.int _ z)=>match Df P e,Ku P e,(Fy P e).bind (fun z=>(Gn z).bind C3) with
  |some sz,some by_,some zs=>match s with
   |.Bp=>
    bif decide (0<z) && Nat.ble (z.toNat*by_) 281474976710656 && Nat.ble z.toNat 4611686018427387904 && Nat.beq zs.length sz && Nat.ble 1 sz then
     some (.sl n 0 sz z.toNat z.toNat false,[(n,some ⟨rep zs z.toNat,e⟩)])
    else none
   |.sl id off esz q cap true=>match cellsOf look sz (.sl id off esz q cap true) with
    |some (k,old)=>
     bif decide (0<z) && Nat.ble (cap+1) (k+z.toNat) && Nat.ble ((k+z.toNat)*by_) 140737488355328 && Nat.ble (k+z.toNat) 4611686018427387904 && Nat.beq zs.length sz && Nat.ble 1 sz then
      some (.sl n 0 sz (k+z.toNat) (k+z.toNat) false,[(n,some ⟨old++rep zs z.toNat,e⟩)])
     else none
    |none=>none
   |_=>none
  |_,_,_=>none
 |_=>none
def kU (s:AV) (q:Nat):Bool:=match s with|.sl _ _ _ _ cap _=>Nat.ble q cap|_=>false
def O9 (P:Program) (look:Nat→Option Bk) (n:Nat) (t tx:TypeId) (s x:AV):Ht:=
 match P.underlying t,P.underlying tx with
 |some (.slice e),some (.slice _)=>match Df P e,Ku P e,(Fy P e).bind (fun z=>(Gn z).bind C3) with
  |some sz,some by_,some zs=>match cellsOf look sz x with
   |some (m,xs)=>
    bif Nat.beq m 0 then
     match s with
     |.Bp|.Dh ..|.sl ..=>some (s,[])
     |_=>none
    else
    match cellsOf look sz s with
    |some (k,old)=>
     bif (Nat.ble ((k+m)*by_) 140737488355328||kU s (k+m)) && Nat.ble (k+m) 4611686018427387904 && Nat.beq zs.length sz && Nat.ble 1 sz && xs.all B7 && Nat.beq xs.length (m*sz) && Nat.beq old.length (k*sz) then
      match s with
      |.Bp=>some (.sl n 0 sz (k+m) (k+m) false,[(n,some ⟨old++xs,e⟩)])
      |.Dh _ _ true=>some (.sl n 0 sz (k+m) (k+m) false,[(n,some ⟨old++xs,e⟩)])
      |.sl id off esz _ cap ex=>
       bif Nat.ble (k+m) cap then
        match look id with
        |some b=>bif Nat.ble (off+(k+m)*sz) b.cells.length then some (.sl id off sz (k+m) cap ex,[(id,some ⟨C9 b.cells (off+k*sz) xs,b.ty⟩)]) else none
        |none=>none
       else bif ex then some (.sl n 0 sz (k+m) (k+m) false,[(n,some ⟨old++xs,e⟩)])
       else bif Nat.beq off 0 && (match look id with|some b=>Nat.beq b.ty e|none=>false) then some (.sl n 0 sz (k+m) (k+m) false,[(n,some ⟨old++xs,e⟩),(id,none)])
       else none
      |_=>none
     else none
    |none=>none
   |none=>none
  |_,_,_=>none
 |some (.slice e),some (.int _)=>Pv P look n e s x
 |_,_=>none
def Aje (P:Program) (t:TypeId) (x:AV):Ht:=
 match P.underlying t,x with
 |some (.slice _),.Bp=>some (.sc (.int .i64 0),[])
 |some (.slice _),.Dh n _ _=>some (.sc (.int .i64 n),[])
 |some (.slice _),.sl _ _ _ n _ _=>some (.sc (.int .i64 n),[])
 |some .string,.sc (.string s)=>some (.sc (.int .i64 s.size),[])
 |some (.array n _),_=>some (.sc (.int .i64 n),[])
 |_,_=>none
def tV (P:Program) (t:TypeId) (x:AV):Ht:=
 match P.underlying t,x with
 |some (.slice _),.sl _ _ _ _ cap true=>some (.sc (.int .i64 cap),[])
 |some (.slice _),.Bp=>some (.sc (.int .i64 0),[])
 |_,_=>none
def K3 (dflt:Nat):Option AV→Option Nat
 |none=>some dflt
 |some (.sc (.int _ z))=>bif decide (0≤z) then some z.toNat else none
 |_=>none
def T5 (P:Program) (look:Nat→Option Bk) (t:TypeId) (x:AV) (lo hi mx:Option AV):Ht:=
 match P.underlying t with
 |some (.slice e)=>match Df P e with
  |some sz=>match x with
   |.Bp=>match K3 0 lo,K3 0 hi,K3 0 mx with
    |some 0,some 0,some 0=>bif mx.isSome && hi.isNone then none else some (.Bp,[])
    |_,_,_=>none
   |.Dh n cs ex=>match K3 0 lo,K3 n hi,K3 n mx with
    |some l,some h,some m=>bif Nat.ble l h && Nat.ble h m && Nat.ble m n && Nat.beq cs.length (n*sz) && !(mx.isSome && hi.isNone) then
      some (.Dh (h-l) ((cs.drop (l*sz)).take ((h-l)*sz)) (mx.isSome && Nat.beq h m),[]) else none
    |_,_,_=>none
   |.sl id off esz n cap ex=>match K3 0 lo,K3 n hi,K3 cap mx with
    |some l,some h,some m=>bif Nat.ble l h && Nat.ble h m && Nat.ble m cap && Nat.beq esz sz && !(mx.isSome && hi.isNone) then
      bif Nat.beq l m then some (.Dh 0 [] (ex||mx.isSome),[]) else some (.sl id (off+l*sz) sz (h-l) (m-l) (ex||mx.isSome),[])
     else none
    |_,_,_=>none
   |_=>none
  |none=>none
 |some (.array len e)=>match Df P e with
  |some sz=>match x with
   |.ptr id off=>match look id,K3 0 lo,K3 len hi,K3 len mx with
    |some b,some l,some h,some m=>bif Nat.ble l h && Nat.ble h m && Nat.ble m len && Nat.ble (off+len*sz) b.cells.length && Nat.ble len 4611686018427387904 && !(mx.isSome && hi.isNone) then
      bif Nat.beq l m then some (.Dh 0 [] true,[]) else some (.sl id (off+l*sz) sz (h-l) (m-l) true,[])
     else none
    |_,_,_,_=>none
   |.B6 cs off=>match K3 0 lo,K3 len hi,K3 len mx with
    |some l,some h,some m=>bif Nat.ble l h && Nat.ble h m && Nat.ble m len && Nat.ble (off+len*sz) cs.length && Nat.ble len 4611686018427387904 && !(mx.isSome && hi.isNone) then
      bif Nat.beq l m then some (.Dh 0 [] true,[]) else some (.Dh (h-l) ((cs.drop (off+l*sz)).take ((h-l)*sz)) (Nat.beq h m),[])
     else none
    |_,_,_=>none
   |_=>none
  |none=>none
 |_=>none
def fD (P:Program) (look:Nat→Option Bk) (t tx:TypeId) (d s:AV):Ht:=
 match P.underlying t with
 |some (.slice e)=>match Df P e with
  |some sz=>match cellsOf look sz s with
   |some (m,xs)=>match d with
    |.sl id off esz n cap ex=>match look id with
     |some b=>bif Nat.ble (off+n*sz) b.cells.length && (xs.take (Nat.min m n*sz)).all B7 && Nat.beq esz sz then
       some (.sc (.int .i64 ((Nat.min m n:Nat):Int)),[(id,some ⟨C9 b.cells off (xs.take (Nat.min m n*sz)),b.ty⟩)]) else none
     |none=>none
    |_=>none
   |none=>none
  |none=>none
 |_=>none
def Vk (P:Program) (look:Nat→Option Bk) (t:TypeId) (d:AV):Ht:=
 match P.underlying t with
 |some (.slice e)=>match d with
  |.Bp=>some (.Bn [],[])
  |.Dh 0 _ _=>some (.Bn [],[])
  |.sl id off esz 0 cap ex=>some (.Bn [],[])
  |.sl id off esz (n+1) cap ex=>match Df P e,(Fy P e).bind (fun z=>(Gn z).bind C3),look id with
   |some sz,some zs,some b=>bif Nat.ble (off+(n+1)*sz) b.cells.length && zs.all B7 && Nat.beq esz sz && Nat.beq zs.length sz && Nat.ble 1 sz then
     some (.Bn [],[(id,some ⟨C9 b.cells off (rep zs (n+1)),b.ty⟩)]) else none
   |_,_,_=>none
  |_=>none
 |_=>none
def Q1:AV→Option (Bool×Bool)
 |.Bp=>some (true,true)
 |.Jk=>some (false,true)
 |.Dh _ (_::_) _|.sl ..=>some (true,false)
 |.ptr ..|.B6 ..=>some (false,false)
 |_=>none
def X5 (P:Program) (t:TypeId) (s s':Bool):Bool:=
 match P.underlying t with
 |some (.slice _)=>s && s'
 |some (.pointer _)=> !s && !s'
 |_=>false
def Na (op:BinOp) (x y:Value):Option Value:=
 match x,y with
 |.int k a,.int k' b=>if k=k' then
   match op with
   |.add=>some (.int k (k.wrap (a+b)))
   |.sub=>some (.int k (k.wrap (a-b)))
   |.mul=>some (.int k (k.wrap (a*b)))
   |.quo=>bif decide (b=0) then none else some (.int k (k.wrap (a.tdiv b)))
   |.rem=>bif decide (b=0) then none else some (.int k (a.tmod b))
   |.eql=>some (.bool (a==b))
   |.neq=>some (.bool (a !=b))
   |.lss=>some (.bool (decide (a<b)))
   |.leq=>some (.bool (decide (a≤b)))
   |.gtr=>some (.bool (decide (a>b)))
   |.geq=>some (.bool (decide (a≥b)))
   |_=>none
  else none
 |.string a,.string b=>
  match op with
  |.eql=>some (.bool (a.toList==b.toList))
  |.neq=>some (.bool (!(a.toList==b.toList)))
  |.lss=>some (.bool (Op.bytesLess a.toList b.toList))
  |.leq=>some (.bool (Op.bytesLess a.toList b.toList||a.toList==b.toList))
  |.gtr=>some (.bool (!(Op.bytesLess a.toList b.toList||a.toList==b.toList)))
  |.geq=>some (.bool (!(Op.bytesLess a.toList b.toList)))
  |_=>none
 |_,_=>none
def Nt (ρ:Operand→Option AV) (x:Operand):Option Value:=(ρ x).bind O0
def bK (ρ:Operand→Option AV) (l:List Operand):Bool:=l.all fun x=>(Nt ρ x).isSome
def Of:Op→Bool
 |.select ..=>false
 |_=>true
def Hy (P:Program) (ρ:Operand→Option AV) (o:Oper):Ht:=
 bif Of o.op && bK ρ o.op.operands.toList then
  match B4 P (execOp (fun x=>(Nt ρ x).getD undef) o) with
  |some (.value v)=>(Gn v).map (·,[])
  |_=>none
 else none
def Abs (P:Program) (ρ:Operand→Option AV) (o:Oper) (op:BinOp) (t:TypeId) (x y:Operand):Ht:=
 match ρ x,ρ y with
 |some (.sc a),some (.sc b)=>match Na op a b with
  |some v=>some (.sc v,[])
  |none=>Hy P ρ o
 |some a,some b=>match op,Q1 a,Q1 b with
  |.eql,some (s,p),some (s',q)=>bif (p||q) && X5 P t s s' then some (.sc (.bool (p && q)),[]) else none
  |.neq,some (s,p),some (s',q)=>bif (p||q) && X5 P t s s' then some (.sc (.bool (!(p && q))),[]) else none
  |_,_,_=>Hy P ρ o
 |_,_=>none
def Ai4 (P:Program) (op:BinOp) (t:TypeId):AV→Ht
 |.ifc p=>match P.underlying t,op with
  |some (.interface _),.eql=>some (.sc (.bool p),[])
  |some (.interface _),.neq=>some (.sc (.bool (!p)),[])
  |_,_=>none
 |_=>none
def byteCells (s:ByteArray):List AV:=s.data.toList.map fun b=> .sc (.int .u8 b.toNat)
def byteOf:AV→Option UInt8
 |.sc (.int .u8 z)=>bif decide (0≤z) && decide (z<256) then some (UInt8.ofNat z.toNat) else none
 |_=>none
def bytesOf:List AV→Option (List UInt8)
 |[]=>some []
 |x::xs=>match byteOf x,bytesOf xs with|some b,some l=>some (b::l)|_,_=>none
def oL (P:Program) (ρ:Operand→Option AV) (look:Nat→Option Bk) (o:Oper) (src dst:TypeId) (x:Operand):Ht:=
 match ρ x,P.underlying src,P.underlying dst with
 |some (.sc (.string s)),some .string,some (.slice e)=>match P.underlying e with
  |some (.int .u8)=>bif Nat.ble s.size 4611686018427387904 then some (.Dh s.size (byteCells s) false,[]) else none
  |_=>none
 |some y,some (.slice e),some .string=>match P.underlying e with
  |some (.int .u8)=>match cellsOf look 1 y with
   |some (n,cs)=>match bytesOf cs with
    |some l=>some (.sc (.string ⟨l.toArray⟩),[])
    |none=>none
   |none=>none
  |_=>none
 |_,_,_=>Hy P ρ o
def Ou (P:Program) (ρ:Operand→Option AV) (look:Nat→Option Bk) (n:Nat) (o:Oper):Ht:=
 match o.op with
 |.move x|.assign x=>(ρ x).map (·,[])
 |.pick c a b=>match ρ c with
  |some (.sc (.bool t))=>(bif t then ρ a else ρ b).map (·,[])
  |_=>none
 |.alloc t=>match (Fy P t).bind (fun z=>(Gn z).bind C3) with
  |some cs=>some (.ptr n 0,[(n,some ⟨cs,t⟩)])
  |none=>none
 |.box t x=>match (ρ x).bind C3 with
  |some cs=>some (.ptr n 0,[(n,some ⟨cs,t⟩)])
  |none=>none
 |.load t a=>(ρ a).bind (G4 P look t)
 |.store t a x=>match ρ a,ρ x with
  |some a,some x=>Uz P look t a x
  |_,_=>none
 |.fieldAddr t x fi=>(ρ x).bind (kG P t fi)
 |.indexAddr t x i=>match ρ x,ρ i with
  |some x,some i=>N4 P t x i
  |_,_=>none
 |.field t x fi=>(ρ x).bind (aW P t fi)
 |.index t x i=>match ρ x,ρ i with
  |some (.agg cs),some i=>P1 P t (.agg cs) i
  |_,_=>Hy P ρ o
 |.extract x i=>match ρ x with
  |some (.Bn vs)=>(vs[i]?).map (·,[])
  |_=>none
 |.build t parts=>(Gq ρ parts.toList).bind (gT P t)
 |.buildSlice t len parts=>(Gq ρ parts.toList).bind (Me P n t len)
 |.makeSlice t l c=>match ρ l,ρ c with
  |some l,some c=>N7 P n t l c
  |_,_=>none
 |.slice t x lo hi mx=>match ρ x with
  |some (.sc _)=>Hy P ρ o
  |some x=>match lo.mapM ρ,hi.mapM ρ,mx.mapM ρ with
   |some lo,some hi,some mx=>T5 P look t x lo hi mx
   |_,_,_=>none
  |none=>none
 |.nilCheck x=>match ρ x with
  |some (.ptr id off)=>some (.ptr id off,[])
  |some (.B6 cs off)=>some (.B6 cs off,[])
  |some (.fn f cs)=>some (.fn f cs,[])
  |_=>none
 |.makeFunc (.func f) first caps=>match first.toList with
  |[]=>(opts ρ caps.toList).map (fun l=>(.fn f l,[]))
  |_=>none
 |.binOp op t x (.const .nilIface) _=>match ρ x,ρ (.const .nilIface) with
  |some y,some (.ifc true)=>Ai4 P op t y
  |_,_=>none
 |.binOp op t x y _=>Abs P ρ o op t x y
 |.call {callee:=.builtin .append,args,argTypes}=>match args.toList,argTypes.toList with
  |[s,x],[t,tx]=>match ρ s,ρ x with
   |some s,some x=>O9 P look n t tx s x
   |_,_=>none
  |_,_=>none
 |.call {callee:=.builtin .len,args,argTypes}=>match args.toList,argTypes.toList with
  |[x],[t]=>(ρ x).bind (Aje P t)
  |_,_=>none
 |.call {callee:=.builtin .cap,args,argTypes}=>match args.toList,argTypes.toList with
  |[x],[t]=>(ρ x).bind (tV P t)
  |_,_=>none
 |.call {callee:=.builtin .copy,args,argTypes}=>match args.toList,argTypes.toList with
  |[d,s],[t,tx]=>match ρ d,ρ s with
   |some d,some s=>fD P look t tx d s
   |_,_=>none
  |_,_=>none
 |.call {callee:=.builtin .clear,args,argTypes}=>match args.toList,argTypes.toList with
  |[d],[t]=>(ρ d).bind (Vk P look t)
  |_,_=>none
 |.call {callee:=.builtin .max,..}=>Hy P ρ o
 |.call {callee:=.builtin .min,..}=>Hy P ρ o
 |.unOp ..=>Hy P ρ o
 |.convert src dst x=>oL P ρ look o src dst x
 |_=>none
def A3:AV→List Nat
 |.ptr id _=>[id]
 |.sl id ..=>[id]
 |_=>[]
def yV (ρ:Operand→Option AV) (o:Oper):List Nat:=o.op.operands.toList.flatMap fun x=>match ρ x with|some v=>A3 v|none=>[]
end Go.Proofs.YtmechmjjcgdpdaaGreatDoor
set_option linter.unusedVariables false
set_option linter.unusedSimpArgs false
namespace Go.Proofs.YtmechmjjcgdpdaaGreatDoor
mutual
def clean:AV→Bool
 |.El=>true
 |.sc _=>true
 |.agg cs=>Ap cs
 |.Bn cs=>Ap cs
 |.Jk=>true
 |.ptr _ _=>false
 |.B6 cs _=>Ap cs
 |.Bp=>true
 |.Dh _ cs _=>Ap cs
 |.sl _ _ _ _ _ _=>false
 |.fn _ cs=>Ap cs
 |.ifc _=>true
def Ap:List AV→Bool
 |[]=>true
 |x::xs=>clean x && Ap xs
end
structure St where
 e:List (Nat×AV)
 m:List (Nat×Option Bk)
 nx:Nat
structure I5 where
 pm:FuncId→Bool
 gl:Nat→Option (List AV)
def Ic (gl:Nat→Option (List AV)) (e:List (Nat×AV)):Operand→Option AV
 |.tmp t=>some (E5 e t)
 |.const v=>Gn v
 |.func f=>some (.fn f [])
 |.global g=>(gl g).map fun cs=> .B6 cs 0
def Hh (ops:Array Oper) (e:List (Nat×AV)) (o:Oper):Option Bool:=
 match o.guard with
 |none=>some true
 |some (j,want)=>match (ops[j]?).bind (·.dst) with
  |some d=>match E5 e d with
   |.sc (.bool b)=>some (b==want)
   |.Bn _=>some false
   |_=>none
  |none=>none
abbrev Ee:=FuncId→List AV→List (Nat×Option Bk)→Nat→Option (AV×List (Nat×Option Bk)×Nat)
def I8 (f:AV→Option AV):List AV→Option (List AV)
 |[]=>some []
 |x::xs=>match f x,I8 f xs with|some y,some ys=>some (y::ys)|_,_=>none
def freeze (look:Nat→Option Bk):Nat→AV→Option AV
 |0,_=>none
 |k+1,.sl id off esz n cap ex=>match look id with
  |some b=>bif Nat.ble (off+n*esz) b.cells.length then (I8 (freeze look k) ((b.cells.drop off).take (n*esz))).map (fun l=> .Dh n l false) else none
  |none=>none
 |k+1,.agg cs=>(I8 (freeze look k) cs).map .agg
 |k+1,.Bn cs=>(I8 (freeze look k) cs).map .Bn
 |k+1,x=>bif clean x then some x else none
def snap (look:Nat→Option Bk):Nat→AV→Option AV
 |0,_=>none
 |k+1,.sl id off esz n cap ex=>match look id with
  |some b=>bif Nat.ble (off+n*esz) b.cells.length then (I8 (snap look k) ((b.cells.drop off).take (n*esz))).map (fun l=> .Dh n l false) else none
  |none=>none
 |k+1,.ptr id off=>match look id with
  |some b=>(I8 (snap look k) b.cells).map (fun l=> .B6 l off)
  |none=>none
 |k+1,.agg cs=>(I8 (snap look k) cs).map .agg
 |k+1,.Bn cs=>(I8 (snap look k) cs).map .Bn
 |k+1,.fn f cs=>(I8 (snap look k) cs).map (.fn f)
 |k+1,x=>bif clean x then some x else none
def reach (look:Nat→Option Bk):Nat→AV→List Nat
 |0,_=>[]
 |k+1,.ptr id _=>id::(match look id with|some b=>b.cells.flatMap (reach look k)|none=>[])
 |k+1,.sl id _ _ _ _ _=>id::(match look id with|some b=>b.cells.flatMap (reach look k)|none=>[])
 |k+1,.agg cs=>cs.flatMap (reach look k)
 |k+1,.Bn cs=>cs.flatMap (reach look k)
 |k+1,.fn _ cs=>cs.flatMap (reach look k)
 |_+1,_=>[]
def Lf:AV→Bool
 |.sc _=>true
 |_=>false
def yN:AV→Bool
 |.sc _=>true
 |.Bp=>true
 |.Dh 0 [] _=>true
 |.agg cs=>cs.all Lf
 |_=>false
def Gk:AV→Bool
 |.sc _=>true
 |.agg cs=>cs.all Lf
 |.Bn cs=>cs.all yN
 |_=>false
def Fp (cf:Ee) (look:Nat→Option Bk) (g:FuncId) (args:List AV):Ht:=
 bif Ap args then
  match cf g args [] 0 with
  |some (v,m,_)=>match freeze (Ao m) 6 v with
   |some v'=>bif clean v' then some (v',[]) else none
   |none=>none
  |none=>none
 else
  match I8 (snap look 6) args with
  |some ar=>match cf g ar [] 0 with
   |some (v,_,_)=>bif Gk v then some (v,[]) else none
   |none=>none
  |none=>none
def madeOf (n:Nat) (m:List (Nat×Option Bk)):AV→Ht
 |.sl id off esz k cap ex=>match Ao m id with
  |some b=>bif Ap b.cells then some (.sl n off esz k cap ex,[(n,some b)]) else none
  |none=>none
 |_=>none
def Lt (cf:Ee) (look:Nat→Option Bk) (n:Nat) (g:FuncId) (args:List AV):Ht:=
 bif Ap args then
  match cf g args [] 0 with
  |some (v,m,_)=>madeOf n m v
  |none=>none
 else
  match I8 (snap look 6) args with
  |some ar=>match cf g ar [] 0 with
   |some (v,m,_)=>match madeOf n m v with
    |some (v',[(i,some b)])=>bif b.cells.all Lf then some (v',[(i,some b)]) else none
    |_=>none
   |none=>none
  |none=>none
def Adi:List AV→Option (List Value)
 |[]=>some []
 |.sc v::r=>match Adi r with
  |some l=>some (v::l)
  |none=>none
 |_=>none
def Tt:List (String×(Array Value→Sem Value)):=[("math.Float64bits",Extern.MathFloatBits.float64bits),("math.Float64frombits",Extern.MathFloatBits.float64frombits),("math.archFloor",Extern.MathFloor.toIntegral "math.archFloor" .down),("internal/bytealg.abigen_runtime_cmpstring",Extern.BytealgCompare.compare),("internal/bytealg.CountString",Extern.BytealgCount.count),("internal/bytealg.IndexByteString",Extern.BytealgIndexByte.indexByte)]
def Aka (P:Program) (f:FuncId) (args:List AV):Option AV:=match P.funcs[f]? with
 |some fn=>bif fn.body.isNone && fn.origin== "" then (match Tt.lookup fn.name,Adi args with
  |some ex,some vals=>match B4 P (ex vals.toArray) with
   |some u=>bif Lm u then some (.sc u) else none
   |none=>none
  |_,_=>none) else none
 |none=>none
def bO (P:Program) (K:I5) (cf:Ee) (dr:Bool) (e:List (Nat×AV)) (look:Nat→Option Bk) (n:Nat) (o:Oper):Ht:=
 match o.op with
 |.call {callee:=.value g,args,..}=>match Ic K.gl e g,opts (Ic K.gl e) args.toList with
  |some (.fn g caps),some ar=>match Aka P g (ar++caps) with
   |some v=>some (v,[])
   |none=>bif dr then (match (bif K.pm g then none else Lt cf look n g (ar++caps)) with
    |some r=>some r
    |none=>Fp cf look g (ar++caps)) else bif K.pm g then Fp cf look g (ar++caps) else none
  |_,_=>none
 |_=>Ou P (Ic K.gl e) look n o
def eV (K:I5) (cf:Ee) (s:St) (o:Oper):Option (AV×List (Nat×Option Bk)×Nat):=
 match o.op with
 |.call {callee:=.value g,args,..}=>match Ic K.gl s.e g,opts (Ic K.gl s.e) args.toList with
  |some (.fn g caps),some ar=>cf g (ar++caps) s.m s.nx
  |_,_=>none
 |_=>none
def Ama (P:Program) (K:I5) (cf:Ee) (s:St) (o:Oper):Option (AV×List (Nat×Option Bk)×Nat):=
 match bO P K cf false s.e (Ao s.m) s.nx o with
 |some (v,d)=>some (v,X6 s.m d,s.nx+1)
 |none=>eV K cf s o
def Qd (nt:Nat) (e:List (Nat×AV)) (dst:Option Nat) (v:AV):Option (List (Nat×AV)):=
 match dst with
 |none=>some e
 |some d=>bif Nat.blt d nt then some (uQ e d v) else none
def Yh (P:Program) (K:I5) (cf:Ee) (nt:Nat) (ops:Array Oper):List Oper→St→Option St
 |[],s=>some s
 |o::r,s=>match Hh ops s.e o with
  |some true=>match Ama P K cf s o with
   |some (v,m,nx)=>match Qd nt s.e o.dst v with
    |some e=>Yh P K cf nt ops r ⟨e,m,nx⟩
    |none=>none
   |none=>none
  |some false=>match Qd nt s.e o.dst (.Bn []) with
   |some e=>Yh P K cf nt ops r ⟨e,s.m,s.nx⟩
   |none=>none
  |none=>none
def Ml (o:Oper) (acc:List Nat):Nat:=o.after.toList.foldl (fun s e=>bif Region.binds .any e then s|||2 ^ e.on|||acc.getD e.on 0 else s) 0
def Fh:List Oper→List Nat→List Nat
 |[],acc=>acc
 |o::r,acc=>Fh r (acc++[Ml o acc])
def dJ (ms:List Nat) (i j:Nat):Bool:=(ms.getD j 0).testBit i||(ms.getD i 0).testBit j
def tmpsOf (l:List Operand):List Nat:=l.filterMap fun|.tmp t=>some t|_=>none
def Mt (ops:Array Oper) (o:Oper):List Nat:=tmpsOf o.op.operands.toList++o.dst.toList++(match o.guard with|some (j,_)=>((ops[j]?).bind (·.dst)).toList|none=>[])
def Qo (ops:Array Oper) (ms:List Nat) (l:List (Oper×Nat)) (o:Oper) (i:Nat):Bool:=
 (o.after.toList.all fun e=> !Region.binds .any e||Nat.blt e.on i) && Of o.op &&
 match o.dst with
 |none=>true
 |some t=>l.all fun q=>Nat.beq i q.2|| !(Mt ops q.1).contains t||dJ ms i q.2
def Yv (ops:Array Oper) (ms:List Nat):Bool:=ops.toList.zipIdx.all fun q=>Qo ops ms ops.toList.zipIdx q.1 q.2
structure Rec where
 d:Wr
 ft:List Nat
def Cf (m:List (Nat×Option Bk)) (ft:List Nat) (id:Nat):Option Bk:=bif ft.contains id then Ao m id else none
def X9 (ρ:Operand→Option AV) (o:Oper):List Nat:=
 match o.op with
 |.load ..=>yV ρ o
 |.store ..=>yV ρ o
 |.slice ..=>yV ρ o
 |.convert ..=>yV ρ o
 |.call ..=>yV ρ o
 |_=>[]
def vO (K:I5) (s:St) (o:Oper):List Nat:=
 match o.op with
 |.call {callee:=.value _,..}=>o.op.operands.toList.flatMap fun x=>match Ic K.gl s.e x with
  |some v=>reach (Ao s.m) 6 v
  |none=>[]
 |_=>X9 (Ic K.gl s.e) o
def Alv (P:Program) (K:I5) (cf:Ee) (s:St) (o:Oper):Ht:=bO P K cf true s.e (Cf s.m (vO K s o)) s.nx o
def On (P:Program) (K:I5) (cf:Ee) (nt:Nat) (ops:Array Oper):List Oper→St→List Rec→Option (St×List Rec)
 |[],s,rs=>some (s,rs)
 |o::r,s,rs=>match Hh ops s.e o with
  |some true=>match Alv P K cf s o with
   |some (v,d)=>match Qd nt s.e o.dst v with
    |some e=>On P K cf nt ops r ⟨e,X6 s.m d,s.nx+1⟩ (rs++[⟨d,vO K s o⟩])
    |none=>none
   |none=>none
  |some false=>match Qd nt s.e o.dst (.Bn []) with
   |some e=>On P K cf nt ops r ⟨e,s.m,s.nx+1⟩ (rs++[⟨[],[]⟩])
   |none=>none
  |none=>none
def Aac (a b:Rec):Bool:=a.d.all fun p=> !b.ft.contains p.1 && b.d.all fun q=> !Nat.beq p.1 q.1
def D5 (ms:List Nat) (rs:List Rec):Bool:=
 let l:=rs.zipIdx
 l.all fun p=>p.1.d.isEmpty||l.all fun q=>Nat.beq p.2 q.2||dJ ms p.2 q.2||Aac p.1 q.1
def Hq (P:Program) (K:I5) (cf:Ee) (nt:Nat) (ops:Array Oper) (draw:Bool) (s:St):Option St:=
 bif draw then
  let ms:=Fh ops.toList []
  bif Yv ops ms then
   match On P K cf nt ops ops.toList s [] with
   |some (s',rs)=>bif D5 ms rs then some s' else none
   |none=>none
  else none
 else Yh P K cf nt ops ops.toList s
inductive A4 where
 |normal
 |exit (id:Nat)
 |ret
def iter (f:St→Option (A4×St)):Nat→St→Option (A4×St)
 |0,_=>none
 |k+1,s=>match f s with
  |some (.normal,s')=>iter f k s'
  |r=>r
def Eb (K:I5) (rg:Array Oper→Bool→St→Option St) (k:Nat):Code→St→Option (A4×St)
 |.skip,s=>some (.normal,s)
 |.region _ ops d,s=>(rg ops d s).map (fun s'=>(.normal,s'))
 |.seq a b,s=>match Eb K rg k a s with
  |some (.normal,s')=>Eb K rg k b s'
  |r=>r
 |.cond c a b,s=>match Ic K.gl s.e c with
  |some (.sc (.bool t))=>bif t then Eb K rg k a s else Eb K rg k b s
  |_=>none
 |.block id b,s=>match Eb K rg k b s with
  |some (.exit j,s')=>some (bif Nat.beq j id then .normal else .exit j,s')
  |r=>r
 |.loop b,s=>iter (Eb K rg k b) k s
 |.exit id,s=>some (.exit id,s)
 |.ret,s=>some (.ret,s)
 |.label _,s=>some (.normal,s)
 |_,_=>none
def Qu (P:Program) (s:St):ResultVar→Option AV
 |.tmp t=>some (E5 s.e t)
 |.cell a t=>(G4 P (Ao s.m) t (E5 s.e a)).map (·.1)
def G9 (P:Program) (s:St):List ResultVar→Option (List AV)
 |[]=>some []
 |r::rs=>match Qu P s r,G9 P s rs with|some v,some l=>some (v::l)|_,_=>none
def D6 (P:Program) (fn:Func) (s:St):Option AV:=
 match G9 P s fn.results.toList with
 |some [v]=>some v
 |some l=>some (.Bn l)
 |none=>none
def Ed:List AV→Nat→List (Nat×AV)
 |[],_=>[]
 |a::r,i=>(i,a)::Ed r (i+1)
def Amo (P:Program) (K:I5):Nat→Ee
 |0,_,_,_,_=>none
 |k+1,f,args,m,nx=>match P.funcs[f]? with
  |some fn=>match fn.body with
   |some c=>bif fn.name== "runtime.NumGoroutine" ||Nat.blt fn.ntmps args.length then none else
     match Eb K (Hq P K (Amo P K k) fn.ntmps) k c ⟨Ed args 0,m,nx⟩ with
     |some (.normal,s)=>(D6 P fn s).map (·,s.m,s.nx)
     |some (.ret,s)=>(D6 P fn s).map (·,s.m,s.nx)
     |_=>none
   |none=>none
  |none=>none
end Go.Proofs.YtmechmjjcgdpdaaGreatDoor
set_option linter.unusedVariables false
set_option linter.unusedSimpArgs false
namespace Go.Proofs.YtmechmjjcgdpdaaGreatDoor
open Go.RowKit
theorem Good.lt {B:Nat} {c:Cx} (g:Good B c) {id:Nat} {Bd:Bk} (h:c.M id=some Bd):c.f id<c.w.heap.size:=by
 obtain ⟨arr,vs,rest,hb,-⟩:=g.Bd id Bd h
 exact Ck hb
def Cx.tick (c:Cx) (n:Nat):Cx:={c with al:=fun id=>c.al id∨id=n}
theorem Ha (c:Cx) (n:Nat):Step c (c.tick n):=⟨rfl,rfl,rfl,Nat.le_refl _,fun _ _ _=>rfl,fun _ _ h=>h,fun _ _=>rfl,fun _ h=> .inl h,fun _=>Iff.rfl,fun b arr T h=>⟨arr,h,rfl⟩,Nat.le_refl _⟩
theorem M7 {B:Nat} {c:Cx} (g:Good B c) (n:Nat):Good B (c.tick n):=
 ⟨g.hB,fun id Bd h=>⟨(g.low id Bd h).1,.inl (g.low id Bd h).2⟩,fun id Bd h=>by
  obtain ⟨arr,vs,rest,h1,h2,h3⟩:=g.Bd id Bd h
  exact ⟨arr,vs,rest,h1,h2,h3.step (Ha c n)⟩,g.Lj,g.inj⟩
def Cx.new (c:Cx) (n:Nat) (arr:Array Value) (T:TypeId) (cells:List AV):Cx:=
 {w:=c.w.alloc (.cells arr T),f:=fun id=>if id=n then c.w.heap.size else c.f id,al:=fun id=>c.al id∨id=n,M:=fun id=>if id=n then some ⟨cells,T⟩ else c.M id,no:=c.no}
theorem L7 {B:Nat} {c:Cx} (g:Good B c) {n:Nat} (hn:¬c.al n) (arr:Array Value) (T:TypeId) (cells:List AV):Step c (c.new n arr T cells):=by
 refine ⟨rfl,rfl,rfl,by simp [Cx.new],fun b hb _=>Below.heap_alloc _ _ b hb,fun b hb ho=> ?_,fun id hi=> ?_,fun _ h=> .inl h,fun _=>Iff.rfl,fun b a' T' h=>⟨a',?_,rfl⟩,Nat.le_refl _⟩
 ·obtain ⟨id,Bd,hM,hf⟩:=ho
  by_cases h:id=n
  ·simp only [Cx.new,h,if_true] at hf;omega
  ·simp only [Cx.new,h,if_false] at hM hf;exact ⟨id,Bd,hM,hf⟩
 ·have:id≠n:=fun h=>hn (h ▸ hi)
  simp [Cx.new,this]
 ·show (c.w.alloc (.cells arr T)).heap[b]?=_
  rw [Below.heap_alloc _ _ b (Ck h)];exact h
theorem Ug (w:World) (o:Obj):(w.alloc o).heap[w.heap.size]?=some o:=by show (w.heap.push o)[w.heap.size]?=some o;simp
theorem O7 {B:Nat} {c:Cx} (g:Good B c) {n:Nat} (hn:¬c.al n) {arr:Array Value} {T:TypeId} {cells:List AV} {vs rest:List Value} (h1:arr.toList=vs++rest) (h2:Be c cells vs):Good B (c.new n arr T cells):=by
 have st:=L7 g hn arr T cells
 have hB:=g.hB
 refine ⟨by simp [Cx.new];omega,fun id Bd h=> ?_,fun id Bd h=> ?_,g.Lj,fun id id' Bd blk' h h' hf=> ?_⟩
 ·by_cases hi:id=n
  ·subst hi;simp [Cx.new];exact hB
  ·simp only [Cx.new,hi,if_false] at h ⊢;exact ⟨(g.low id Bd h).1,.inl (g.low id Bd h).2⟩
 ·by_cases hi:id=n
  ·subst hi
   simp only [Cx.new,if_true,Option.some.injEq] at h
   subst h
   exact ⟨arr,vs,rest,by simp only [Cx.new,if_true];exact Ug _ _,h1,h2.step st⟩
  ·have hM:c.M id=some Bd:=by simpa [Cx.new,hi] using h
   obtain ⟨a',v',r',k1,k2,k3⟩:=g.Bd id Bd hM
   refine ⟨a',v',r',?_,k2,k3.step st⟩
   simp only [Cx.new,hi,if_false]
   rw [Below.heap_alloc _ _ _ (Ck k1)];exact k1
 ·by_cases hi:id=n<;>by_cases hi':id'=n
  ·rw [hi,hi']
  ·exfalso
   have hM:c.M id'=some blk':=by simpa [Cx.new,hi'] using h'
   have:=g.lt hM
   simp only [Cx.new,hi,hi',if_true,if_false] at hf;omega
  ·exfalso
   have hM:c.M id=some Bd:=by simpa [Cx.new,hi] using h
   have:=g.lt hM
   simp only [Cx.new,hi,hi',if_true,if_false] at hf;omega
  ·simp only [Cx.new,hi,hi',if_false] at h h' hf;exact g.inj id id' Bd blk' h h' hf
def Cx.put (c:Cx) (n id:Nat) (arr:Array Value) (T:TypeId) (cells:List AV):Cx:=
 {w:=c.w.setRow (c.f id) arr,f:=c.f,al:=fun k=>c.al k∨k=n,M:=fun k=>if k=id then some ⟨cells,T⟩ else c.M k,no:=c.no}
theorem Vg {B:Nat} {c:Cx} (g:Good B c) {n id:Nat} {Bd:Bk} (hM:c.M id=some Bd) {old arr:Array Value} (ho:c.w.heap[c.f id]?=some (.cells old Bd.ty)) (hs:arr.size=old.size) (T:TypeId) (cells:List AV):Step c (c.put n id arr T cells):=by
 refine ⟨rfl,rfl,rfl,by simp [Cx.put],fun b hb hn=> ?_,fun b hb ho=> ?_,fun _ _=>rfl,fun _ h=> .inl h,fun _=>Iff.rfl,fun b a' T' h=> ?_,Nat.le_refl _⟩
 ·show (c.w.setRow (c.f id) arr).heap[b]?=_
  exact setRow_other _ _ _ _ (fun h=>hn ⟨id,Bd,hM,h.symm⟩)
 ·obtain ⟨k,bk,hk,hf⟩:=ho
  by_cases h:k=id
  ·exact ⟨id,Bd,hM,h ▸ hf⟩
  ·simp only [Cx.put,h,if_false] at hk;exact ⟨k,bk,hk,hf⟩
 ·by_cases hb:b=c.f id
  ·subst hb
   rw [ho] at h
   simp only [Option.some.injEq,Obj.cells.injEq,and_true] at h
   obtain ⟨rfl,rfl⟩:=h
   exact ⟨arr,setRow_heap _ _ _ _ _ _ ho,hs⟩
  ·exact ⟨a',by show (c.w.setRow (c.f id) arr).heap[b]?=_;rw [setRow_other _ _ _ _ hb];exact h,rfl⟩
theorem eB {B:Nat} {c:Cx} (g:Good B c) {n id:Nat} {Bd:Bk} (hM:c.M id=some Bd) {old arr:Array Value} (ho:c.w.heap[c.f id]?=some (.cells old Bd.ty)) (hs:arr.size=old.size) {cells:List AV} {vs rest:List Value} (h1:arr.toList=vs++rest) (h2:Be c cells vs):Good B (c.put n id arr Bd.ty cells):=by
 have st:=Vg (n:=n) g hM ho hs Bd.ty cells
 refine ⟨by simpa [Cx.put] using g.hB,fun k bk h=> ?_,fun k bk h=> ?_,g.Lj,fun k k' bk bk' h h' hf=> ?_⟩
 ·by_cases hk:k=id
  ·subst hk;exact ⟨(g.low k Bd hM).1,.inl (g.low k Bd hM).2⟩
  ·simp only [Cx.put,hk,if_false] at h;exact ⟨(g.low k bk h).1,.inl (g.low k bk h).2⟩
 ·by_cases hk:k=id
  ·subst hk
   simp only [Cx.put,if_true,Option.some.injEq] at h
   subst h
   exact ⟨arr,vs,rest,setRow_heap _ _ _ _ _ _ ho,h1,h2.step st⟩
  ·have hM':c.M k=some bk:=by simpa [Cx.put,hk] using h
   obtain ⟨a',v',r',k1,k2,k3⟩:=g.Bd k bk hM'
   refine ⟨a',v',r',?_,k2,k3.step st⟩
   show (c.w.setRow (c.f id) arr).heap[c.f k]?=_
   rw [setRow_other _ _ _ _ (fun he=>hk (g.inj k id bk Bd hM' hM he))];exact k1
 ·have e1:∃b1,c.M k=some b1:=by
   by_cases hk:k=id
   ·exact ⟨Bd,hk ▸ hM⟩
   ·exact ⟨bk,by simpa [Cx.put,hk] using h⟩
  have e2:∃b1,c.M k'=some b1:=by
   by_cases hk:k'=id
   ·exact ⟨Bd,hk ▸ hM⟩
   ·exact ⟨bk',by simpa [Cx.put,hk] using h'⟩
  obtain ⟨b1,e1⟩:=e1
  obtain ⟨b2,e2⟩:=e2
  exact g.inj k k' b1 b2 e1 e2 hf
def Cx.drop (c:Cx) (id:Nat):Cx:={c with M:=fun k=>if k=id then none else c.M k}
theorem Kl (c:Cx) (id:Nat):Step c (c.drop id):=by
 refine ⟨rfl,rfl,rfl,Nat.le_refl _,fun _ _ _=>rfl,fun b _ ho=> ?_,fun _ _=>rfl,fun _ h=>h,fun _=>Iff.rfl,fun b arr T h=>⟨arr,h,rfl⟩,Nat.le_refl _⟩
 obtain ⟨k,bk,hk,hf⟩:=ho
 by_cases h:k=id
 ·simp [Cx.drop,h] at hk
 ·simp only [Cx.drop,h,if_false] at hk;exact ⟨k,bk,hk,hf⟩
theorem Y8 {c:Cx} {id k:Nat} {bk:Bk} (h:(c.drop id).M k=some bk):c.M k=some bk:=by
 by_cases hk:k=id
 ·simp [Cx.drop,hk] at h
 ·simpa [Cx.drop,hk] using h
theorem X7 {B:Nat} {c:Cx} (g:Good B c) (id:Nat):Good B (c.drop id):=
 ⟨g.hB,fun k bk h=>g.low k bk (Y8 h),fun k bk h=>by
  obtain ⟨a',v',r',k1,k2,k3⟩:=g.Bd k bk (Y8 h)
  exact ⟨a',v',r',k1,k2,k3.step (Kl c id)⟩,g.Lj,fun k k' bk bk' h h' hf=>g.inj k k' bk bk' (Y8 h) (Y8 h') hf⟩
def Cx.pass (c:Cx) (n id:Nat) (cells:List AV) (T:TypeId):Cx:=
 {w:=c.w,f:=fun k=>if k=n then c.f id else c.f k,al:=fun k=>c.al k∨k=n,M:=fun k=>if k=id then none else if k=n then some ⟨cells,T⟩ else c.M k,no:=c.no}
theorem Xu {B:Nat} {c:Cx} (g:Good B c) {n id:Nat} (hn:¬c.al n) {Bd:Bk} (hM:c.M id=some Bd) (cells:List AV) (T:TypeId):Step c (c.pass n id cells T):=by
 refine ⟨rfl,rfl,rfl,Nat.le_refl _,fun _ _ _=>rfl,fun b _ ho=> ?_,fun k hk=> ?_,fun _ h=> .inl h,fun _=>Iff.rfl,fun b arr T h=>⟨arr,h,rfl⟩,Nat.le_refl _⟩
 ·obtain ⟨k,bk,hk,hf⟩:=ho
  by_cases h:k=id
  ·simp [Cx.pass,h] at hk
  ·by_cases h':k=n
   ·subst h';simp only [Cx.pass,if_true] at hf;exact ⟨id,Bd,hM,hf⟩
   ·simp only [Cx.pass,h,h',if_false] at hk hf;exact ⟨k,bk,hk,hf⟩
 ·have:k≠n:=fun h=>hn (h ▸ hk)
  simp [Cx.pass,this]
theorem o5 {B:Nat} {c:Cx} (g:Good B c) {n id:Nat} (hn:¬c.al n) {Bd:Bk} (hM:c.M id=some Bd) {cells:List AV} {arr:Array Value} {vs rest:List Value} (ho:c.w.heap[c.f id]?=some (.cells arr Bd.ty)) (h1:arr.toList=vs++rest) (h2:Be c cells vs):Good B (c.pass n id cells Bd.ty):=by
 have st:=Xu g hn hM cells Bd.ty
 have hid:id≠n:=fun h=>hn (h ▸ (g.low id Bd hM).2)
 have hk0:∀k bk,(c.pass n id cells Bd.ty).M k=some bk→k≠id∧(k=n∨(k≠n∧c.M k=some bk)):=by
  intro k bk h
  by_cases hk:k=id
  ·simp [Cx.pass,hk] at h
  ·by_cases hk':k=n
   ·exact ⟨hk,.inl hk'⟩
   ·simp only [Cx.pass,hk,hk',if_false] at h;exact ⟨hk,.inr ⟨hk',h⟩⟩
 refine ⟨g.hB,fun k bk h=> ?_,fun k bk h=> ?_,g.Lj,fun k k' bk bk' h h' hf=> ?_⟩
 ·obtain ⟨_,rfl|⟨hk,hM'⟩⟩:=hk0 k bk h
  ·simp only [Cx.pass,if_true];exact ⟨(g.low id Bd hM).1,.inr trivial⟩
  ·simp only [Cx.pass,hk,if_false];exact ⟨(g.low k bk hM').1,.inl (g.low k bk hM').2⟩
 ·obtain ⟨hki,rfl|⟨hk,hM'⟩⟩:=hk0 k bk h
  ·simp only [Cx.pass,hki,if_true,if_false,Option.some.injEq] at h
   subst h
   refine ⟨arr,vs,rest,?_,h1,h2.step st⟩
   simp only [Cx.pass,if_true];exact ho
  ·obtain ⟨a',v',r',k1,k2,k3⟩:=g.Bd k bk hM'
   exact ⟨a',v',r',by simp only [Cx.pass,hk,if_false];exact k1,k2,k3.step st⟩
 ·obtain ⟨hki,rfl|⟨hk,hM1⟩⟩:=hk0 k bk h<;>obtain ⟨hki',rfl|⟨hk',hM2⟩⟩:=hk0 k' bk' h'
  ·rfl
  ·exfalso
   simp only [Cx.pass,hk',if_true,if_false] at hf
   exact hki' (g.inj k' id bk' Bd hM2 hM hf.symm)
  ·exfalso
   simp only [Cx.pass,hk,if_true,if_false] at hf
   exact hki (g.inj k id bk Bd hM1 hM hf)
  ·simp only [Cx.pass,hk,hk',if_false] at hf;exact g.inj k k' bk bk' hM1 hM2 hf
def Cx.more (c:Cx) (o:Obj):Cx:={c with w:=c.w.alloc o}
theorem Xw {B:Nat} {c:Cx} (g:Good B c) (o:Obj):Step c (c.more o):=by
 refine ⟨rfl,rfl,rfl,by simp [Cx.more],fun b hb _=>Below.heap_alloc _ _ b hb,fun b hb ho=>ho,fun _ _=>rfl,fun _ h=>h,fun _=>Iff.rfl,fun b a' T' h=>⟨a',?_,rfl⟩,Nat.le_refl _⟩
 show (c.w.alloc o).heap[b]?=_
 rw [Below.heap_alloc _ _ b (Ck h)];exact h
theorem sZ {B:Nat} {c:Cx} (g:Good B c) (o:Obj):Good B (c.more o):=by
 have hB:=g.hB
 refine ⟨by simp [Cx.more];omega,g.low,fun id Bd h=> ?_,g.Lj,g.inj⟩
 obtain ⟨a',v',r',k1,k2,k3⟩:=g.Bd id Bd h
 refine ⟨a',v',r',?_,k2,k3.step (Xw g o)⟩
 show (c.w.alloc o).heap[c.f id]?=_
 rw [Below.heap_alloc _ _ _ (Ck k1)];exact k1
theorem fK {B:Nat} {c:Cx} (g:Good B c) (o:Obj):(c.more o).Bs c.w.heap.size:=by
 refine ⟨by simp [Cx.more],fun ⟨id,Bd,hM,hf⟩=> ?_,fun h=> ?_⟩
 ·have:=g.lt hM;simp only [Cx.more] at hf;omega
 ·have:=g.Lj _ h;have:=g.hB;omega
def Cx.drew (c:Cx):Cx:={c with w:=c.w.drew}
theorem Fu (c:Cx):Step c c.drew:=⟨rfl,rfl,rfl,Nat.le_refl _,fun _ _ _=>rfl,fun _ _ h=>h,fun _ _=>rfl,fun _ h=>h,fun _=>Iff.rfl,fun b arr T h=>⟨arr,h,rfl⟩,Lk (Nat.le_succ _)⟩
theorem Kf {B:Nat} {c:Cx} (g:Good B c):Good B c.drew:=
 ⟨g.hB,g.low,fun id Bd h=>by
  obtain ⟨a',v',r',k1,k2,k3⟩:=g.Bd id Bd h
  exact ⟨a',v',r',k1,k2,k3.step (Fu c)⟩,g.Lj,g.inj⟩
end Go.Proofs.YtmechmjjcgdpdaaGreatDoor
set_option linter.unusedVariables false
set_option linter.unusedSimpArgs false
namespace Go.Proofs.YtmechmjjcgdpdaaGreatDoor
open Go.RowKit
section
variable {P:Program}
theorem C5 {t:TypeId} {n:Nat} (h:Df P t=some n) (w:World):(sizeOf t).run P w=.ok n w:=by
 unfold Df at h
 cases hi:P.info? t with
 |none=>simp [hi] at h
 |some i=>simp [hi] at h;simp [sizeOf,typeInfo,hi,h]
theorem qO {t:TypeId} {n:Nat} (h:Ku P t=some n) (w:World):∃i,(typeInfo t).run P w=.ok i w∧i.bytes=n:=by
 unfold Ku at h
 cases hi:P.info? t with
 |none=>simp [hi] at h
 |some i=>simp [hi] at h;exact ⟨i,by simp [typeInfo,hi],h⟩
theorem J6 {t:TypeId} {z:Value} (h:Fy P t=some z) (w:World):(zeroValue t).run P w=.ok z w:=by
 unfold Fy at h
 cases hi:P.info? t with
 |none=>simp [hi] at h
 |some i=>simp [hi] at h;simp [zeroValue,typeInfo,hi,h]
theorem K7 {t:TypeId} {d:TypeDesc} (h:P.underlying t=some d) (w:World):(isAgg t).run P w=.ok (It d) w:=by
 simp only [isAgg,Sem.run_bind,run_underlying h,Result.andThen_ok]
 cases d<;>rfl
theorem L9 {α:Type}:∀(s:Sem α) (a:α),B4 P s=some a→∀w,s.run P w=.ok a w
 |.pure a,b,h,w=>by simp only [B4,Option.some.injEq] at h;subst h;rfl
 |.program k,b,h,w=>L9 (k P) b h w
 |.load ..,b,h,w=>by simp [B4] at h
 |.store ..,b,h,w=>by simp [B4] at h
 |.new ..,b,h,w=>by simp [B4] at h
 |.shape ..,b,h,w=>by simp [B4] at h
 |.freeze ..,b,h,w=>by simp [B4] at h
 |.frozen ..,b,h,w=>by simp [B4] at h
 |.getObj ..,b,h,w=>by simp [B4] at h
 |.setObj ..,b,h,w=>by simp [B4] at h
 |.choose ..,b,h,w=>by simp [B4] at h
 |.sys ..,b,h,w=>by simp [B4] at h
 |.mark ..,b,h,w=>by simp [B4] at h
 |.halt ..,b,h,w=>by simp [B4] at h
theorem Vj {v:Value} {x:AV} (h:Ui v=some x) (c:Cx):A9 c x v:=by
 unfold Ui at h
 split at h
 ·simp only [Option.some.injEq] at h;subst h;exact .Bp
 ·simp only [Option.some.injEq] at h;subst h;exact .Jk
 ·simp only [Option.some.injEq] at h;subst h;exact .N5
 ·cases hs:Lm v with
  |true=>rw [hs] at h;simp only [cond_true,Option.some.injEq] at h;subst h;exact .sc v hs
  |false=>rw [hs] at h;simp at h
theorem L5:∀{vs:List Value} {xs:List AV},Kw vs=some xs→∀c:Cx,Be c xs vs
 |[],xs,h,c=>by simp only [Kw,Option.some.injEq] at h;subst h;exact .nil
 |v::vs,xs,h,c=>by
  unfold Kw at h
  cases h1:Ui v with
  |none=>simp [h1] at h
  |some x=>
   cases h2:Kw vs with
   |none=>simp [h1,h2] at h
   |some ys=>
    simp only [h1,h2,Option.some.injEq] at h
    subst h
    exact .cons (Vj h1 c) (L5 h2 c)
theorem Ij {v:Value} {x:AV} (h:Gn v=some x) (c:Cx):A9 c x v:=by
 unfold Gn at h
 split at h
 ·rename_i cs
  obtain ⟨l,hl,rfl⟩:=Option.map_eq_some_iff.1 h
  have:=A9.agg (L5 hl c)
  simpa using this
 ·rename_i cs
  obtain ⟨l,hl,rfl⟩:=Option.map_eq_some_iff.1 h
  have:=A9.Bn (L5 hl c)
  simpa using this
 ·exact Vj h c
theorem hJ {c:Cx} {x:AV} {v v':Value} (h:Mu x=some v) (r:A9 c x v'):v'=v:=by
 cases r<;>simp [Mu] at h<;>exact h
theorem Mo {c:Cx}:∀{xs:List AV} {vs vs':List Value},I4 xs=some vs→Be c xs vs'→vs'=vs
 |[],vs,vs',h,r=>by cases r;simp only [I4,Option.some.injEq] at h;exact h
 |x::xs,vs,vs',h,r=>by
  cases r with
  |cons r1 r2=>
   unfold I4 at h
   cases h1:Mu x with
   |none=>simp [h1] at h
   |some u=>
    cases h2:I4 xs with
    |none=>simp [h1,h2] at h
    |some us=>
     simp only [h1,h2,Option.some.injEq] at h
     subst h
     rw [hJ h1 r1,Mo h2 r2]
theorem x7 {c:Cx} {x:AV} {v v':Value} (h:O0 x=some v) (r:A9 c x v'):v'=v:=by
 cases r with
 |agg hr=>
  obtain ⟨l,hl,rfl⟩:=Option.map_eq_some_iff.1 (by simpa [O0] using h)
  rw [Mo hl hr]
 |Bn hr=>
  obtain ⟨l,hl,rfl⟩:=Option.map_eq_some_iff.1 (by simpa [O0] using h)
  rw [Mo hl hr]
 |_=>simp [O0,Mu] at h<;>exact h
theorem G8 {c:Cx} {x:AV} {v:Value} {cs:List AV} (r:A9 c x v) (h:C3 x=some cs):Be c cs v.cells.toList:=by
 cases r with
 |El=>simp [C3] at h
 |Bn=>simp [C3] at h
 |agg hr=>simp only [C3,Option.some.injEq] at h;subst h;simpa [Value.cells] using hr
 |sc v hs=>
  simp only [C3,Option.some.injEq] at h;subst h
  have:v.cells=#[v]:=by cases v<;>simp [Lm] at hs<;>rfl
  rw [this];exact Be.one (.sc v hs)
 |Jk=>simp only [C3,Option.some.injEq] at h;subst h;exact Be.one .Jk
 |Bp=>simp only [C3,Option.some.injEq] at h;subst h;exact Be.one .Bp
 |ptr ha off=>simp only [C3,Option.some.injEq] at h;subst h;exact Be.one (.ptr ha off)
 |B6 a b d off=>simp only [C3,Option.some.injEq] at h;subst h;exact Be.one (.B6 a b d off)
 |Dy a cap ex he hm hn=>simp only [C3,Option.some.injEq] at h;subst h;exact Be.one (.Dy a cap ex he hm hn)
 |Dh a b d e f g=>simp only [C3,Option.some.injEq] at h;subst h;exact Be.one (.Dh a b d e f g)
 |sl a b d e f g i=>simp only [C3,Option.some.injEq] at h;subst h;exact Be.one (.sl a b d e f g i)
 |fn f hr=>simp only [C3,Option.some.injEq] at h;subst h;exact Be.one (.fn f hr)
 |N5=>simp only [C3,Option.some.injEq] at h;subst h;exact Be.one .N5
 |Pm u q=>simp only [C3,Option.some.injEq] at h;subst h;exact Be.one (.Pm u q)
theorem Up {c:Cx} {x:AV} {v:Value} (r:A9 c x v) (h:B7 x=true):v.oneCell'=true:=by
 cases r with
 |sc v hs=>cases v<;>simp [Lm] at hs<;>rfl
 |_=>first|rfl|simp [B7] at h
theorem cells_one {c:Cx}:∀{xs:List AV} {vs:List Value},Be c xs vs→xs.all B7=true→∀v∈vs,v.oneCell'=true
 |[],_,r,_,v,hv=>by cases r;simp at hv
 |x::xs,_,r,h,v,hv=>by
  cases r with
  |cons r1 r2=>
   simp only [List.all_cons,Bool.and_eq_true] at h
   rcases List.mem_cons.1 hv with rfl|hv
   ·exact Up r1 h.1
   ·exact cells_one r2 h.2 v hv
def Wh (M:Nat→Option Bk):Wr→Nat→Option Bk
 |[],id=>M id
 |(i,r)::rest,id=>Wh (fun k=>if k=i then r else M k) rest id
def Fc (P:Program) (B n:Nat) (c:Cx) (s:Sem Next) (v:AV) (d:Wr):Prop:=
 ∃(nx:Next) (v':Value) (c':Cx),s.run P c.w=.ok nx c'.w∧(nx=.value v'∨(nx=.skip∧v'=undef))∧A9 c' v v'∧Step c c'∧Good B c'∧(∀id,c'.al id↔c.al id∨id=n)∧∀id,c'.M id=Wh c.M d id
variable {B n:Nat} {c:Cx}
theorem Fc.still {s:Sem Next} {v:AV} {v':Value} (g:Good B c) (hr:s.run P c.w=.ok (.value v') c.w) (hv:A9 c v v'):Fc P B n c s v []:=
 ⟨_,v',c.tick n,hr,.inl rfl,hv.step (Ha c n),Ha c n,M7 g n,fun _=>Iff.rfl,fun _=>rfl⟩
theorem Fc.made {s:Sem Next} {v:AV} {v':Value} (g:Good B c) (hn:¬c.al n) {arr:Array Value} {T:TypeId} {cells:List AV} {vs rest:List Value} (h1:arr.toList=vs++rest) (h2:Be c cells vs)
  (hr:s.run P c.w=.ok (.value v') (c.w.alloc (.cells arr T))) (hv:A9 (c.new n arr T cells) v v'):Fc P B n c s v [(n,some ⟨cells,T⟩)]:=
 ⟨_,v',c.new n arr T cells,hr,.inl rfl,hv,L7 g hn arr T cells,O7 g hn h1 h2,fun _=>Iff.rfl,fun _=>rfl⟩
theorem Ts {w:World} {b o:Nat} {cs:List AV} {vs:List Value} (hr:Be c cs vs) (hc:E4 w b o vs) {t:TypeId} {off:Nat} {x:AV} (h:apart P t cs off=some x):
  ∃v',(loadVar t ⟨b,o+off,none⟩).run P w=.ok v' w∧A9 c x v':=by
 unfold apart at h
 cases hu:P.underlying t with
 |none=>simp [hu] at h
 |some d=>
  simp only [hu] at h
  cases hg:It d with
  |true=>
   rw [hg] at h
   simp only [cond_true] at h
   cases hz:Df P t with
   |none=>simp [hz] at h
   |some k=>
    simp only [hz] at h
    cases hb:Nat.ble (off+k) cs.length with
    |false=>simp [hb] at h
    |true=>
     simp only [hb,cond_true,Option.some.injEq] at h
     subst h
     have hle:off+k≤vs.length:=by rw [← hr.length];exact Nat.le_of_ble_eq_true hb
     have hlen:((vs.drop off).take k).length=k:=by simp;omega
     refine ⟨.agg ((vs.drop off).take k).toArray,?_,.agg ((hr.drop off).take k)⟩
     have hl:=run_loadCells_list (P:=P) w ⟨b,o+off,none⟩ ((vs.drop off).take k) (fun j v hv=>by
      rw [addr_add]
      rw [List.getElem?_take] at hv
      split at hv
      ·rw [List.getElem?_drop] at hv
       have:=hc (off+j) v hv
       rwa [← Nat.add_assoc] at this
      ·cases hv)
     rw [hlen] at hl
     simp only [loadVar,Sem.run_bind,K7 hu,Result.andThen_ok,hg,if_true,C5 hz,hl,Sem.run_pure]
  |false=>
   rw [hg] at h
   simp only [cond_false] at h
   obtain ⟨v',hv,hx⟩:=hr.get h
   refine ⟨v',?_,hx⟩
   have:=hc off v' hv
   simp only [loadVar,Sem.run_bind,K7 hu,Result.andThen_ok,hg,load,Sem.run]
   simp [Sem.run,this]
theorem Good.cells (g:Good B c) {id:Nat} {b:Bk} (h:c.M id=some b):∃(arr:Array Value) (vs rest:List Value),c.w.heap[c.f id]?=some (.cells arr b.ty)∧arr.toList=vs++rest∧Be c b.cells vs∧E4 c.w (c.f id) 0 vs:=by
 obtain ⟨arr,vs,rest,h1,h2,h3⟩:=g.Bd id b h
 refine ⟨arr,vs,rest,h1,h2,h3,fun k v hv=> ?_⟩
 have hk:k<vs.length:=by
  rcases Nat.lt_or_ge k vs.length with h'|h'
  ·exact h'
  ·rw [List.getElem?_eq_none h'] at hv;cases hv
 have:arr[k]?=some v:=by rw [← Array.getElem?_toList,h2,List.getElem?_append_left hk];exact hv
 simp [World.cell?,h1,this]
variable {ev:Operand→Value} {ρ:Operand→Option AV} {look:Nat→Option Bk} {o:Oper}
theorem Abl (g:Good B c) (hl:∀id b,look id=some b→c.M id=some b) {t:TypeId} {a:Operand} (ho:o.op=.load t a) {x v:AV} {d:Wr} (hx:A9 c x (ev a)) (h:G4 P look t x=some (v,d)):Fc P B n c (execOp ev o) v d:=by
 unfold G4 at h
 split at h
 ·rename_i id off
  cases hb:look id with
  |none=>simp [hb] at h
  |some b=>
   simp only [hb] at h
   obtain ⟨y,hy,he⟩:=Option.map_eq_some_iff.1 h
   simp only [Prod.mk.injEq] at he
   obtain ⟨rfl,rfl⟩:=he
   obtain ⟨arr,vs,rest,-,-,h3,h4⟩:=g.cells (hl id b hb)
   obtain ⟨v',hr,hv⟩:=Ts (w:=c.w) h3 h4 hy
   rw [Nat.zero_add] at hr
   have ea:ev a=.pointer (some ⟨c.f id,off,none⟩):=by generalize ev a=u at hx;cases hx;rfl
   exact .still g (by simp only [execOp,ho,Instr.loadAt,ea,Instr.sureAddr,Sem.run_bind,Sem.run_pure,Result.andThen_ok,hr]) hv
 ·rename_i cs off
  obtain ⟨y,hy,he⟩:=Option.map_eq_some_iff.1 h
  simp only [Prod.mk.injEq] at he
  obtain ⟨rfl,rfl⟩:=he
  generalize hu:ev a=u at hx
  cases hx with
  |B6 hb hr hc off=>
   obtain ⟨v',hr',hv⟩:=Ts (w:=c.w) hr hc hy
   exact .still g (by simp only [execOp,ho,Instr.loadAt,hu,Instr.sureAddr,Sem.run_bind,Sem.run_pure,Result.andThen_ok,hr']) hv
 ·cases h
end
end Go.Proofs.YtmechmjjcgdpdaaGreatDoor
set_option linter.unusedVariables false
set_option linter.unusedSimpArgs false
namespace Go.Proofs.YtmechmjjcgdpdaaGreatDoor
open Go.RowKit
section
variable {P:Program} {B n:Nat} {c:Cx} {ev:Operand→Value} {ρ:Operand→Option AV} {look:Nat→Option Bk} {o:Oper}
theorem lA (g:Good B c) {x:Operand} (ho:o.op=.move x∨o.op=.assign x) {y:AV} (hx:A9 c y (ev x)):Fc P B n c (execOp ev o) y []:=by
 rcases ho with ho|ho<;>exact .still g (by simp only [execOp,ho,Sem.run_pure]) hx
theorem Agq (g:Good B c) {t a b:Operand} (ho:o.op=.pick t a b) {q:Bool} (ht:A9 c (.sc (.bool q)) (ev t)) {x:AV} (hx:A9 c x (ev (bif q then a else b))):Fc P B n c (execOp ev o) x []:=by
 have et:ev t=.bool q:=by generalize ev t=u at ht;cases ht;rfl
 refine .still g (v':=ev (bif q then a else b)) ?_ hx
 cases q<;>simp [execOp,ho,et,asBool]
theorem lN {arr:Array Value} {T:TypeId} {cells:List AV}:A9 (c.new n arr T cells) (.ptr n 0) (.pointer (some ⟨c.w.heap.size,0,none⟩)):=by
 have h:(c.new n arr T cells).f n=c.w.heap.size:=by simp [Cx.new]
 have:=A9.ptr (c:=c.new n arr T cells) (id:=n) (.inr rfl) 0
 rwa [h] at this
theorem vF (g:Good B c) (hn:¬c.al n) {t:TypeId} (ho:o.op=.alloc t) {cs:List AV} (h:(Fy P t).bind (fun z=>(Gn z).bind C3)=some cs):Fc P B n c (execOp ev o) (.ptr n 0) [(n,some ⟨cs,t⟩)]:=by
 obtain ⟨z,hz,h⟩:=Option.bind_eq_some_iff.1 h
 obtain ⟨x,hx,h⟩:=Option.bind_eq_some_iff.1 h
 have hr:=G8 (Ij hx c) h
 refine .made g hn (arr:=z.cells) (rest:=[]) (by simp) hr ?_ lN
 simp [execOp,ho,Instr.alloc,J6 hz,newVar,newRow,newObj];rfl
theorem Ajh (g:Good B c) (hn:¬c.al n) {t:TypeId} {x:Operand} (ho:o.op=.box t x) {y:AV} (hx:A9 c y (ev x)) {cs:List AV} (h:C3 y=some cs):Fc P B n c (execOp ev o) (.ptr n 0) [(n,some ⟨cs,t⟩)]:=by
 have hr:=G8 hx h
 refine .made g hn (arr:=(ev x).cells) (rest:=[]) (by simp) hr ?_ lN
 simp [execOp,ho,Instr.box,newVar,newRow,newObj];rfl
theorem e8 {cs:List AV} {vs:List Value} {ncs:List AV} {new:List Value} (hr:Be c cs vs) (hn:Be c ncs new) (off:Nat):Be c (C9 cs off ncs) (vs.take off++new++vs.drop (off+new.length)):=by
 unfold C9
 rw [hn.length]
 exact ((hr.take off).append hn).append (hr.drop _)
theorem Fc.wrote (g:Good B c) {id:Nat} {b:Bk} (hM:c.M id=some b) {arr:Array Value} {vs rest:List Value} (ho:c.w.heap[c.f id]?=some (.cells arr b.ty)) (h1:arr.toList=vs++rest) (hr:Be c b.cells vs)
  {off:Nat} {new:List Value} {ncs:List AV} (hle:off+new.length≤vs.length) (hnew:Be c ncs new) {s:Sem Next} {nx:Next} {v:AV} {v':Value}
  (hrun:s.run P c.w=.ok nx (c.w.setRow (c.f id) (arr.toList.take off++new++arr.toList.drop (off+new.length)).toArray)) (hnx:nx=.value v'∨(nx=.skip∧v'=undef))
  (hv:∀c':Cx,Step c c'→A9 c' v v'):Fc P B n c s v [(id,some ⟨C9 b.cells off ncs,b.ty⟩)]:=by
 have hal:(vs++rest).length=arr.size:=by rw [← h1];simp
 have e0:arr.toList.take off++new++arr.toList.drop (off+new.length)=(vs.take off++new++vs.drop (off+new.length))++rest:=by
  rw [h1,List.take_append_of_le_length (by omega),List.drop_append_of_le_length hle];simp
 have hs:(arr.toList.take off++new++arr.toList.drop (off+new.length)).toArray.size=arr.size:=by
  rw [e0];simp at hal ⊢;omega
 have st:=Vg (n:=n) g hM ho hs b.ty (C9 b.cells off ncs)
 exact ⟨nx,v',c.put n id _ b.ty (C9 b.cells off ncs),hrun,hnx,hv _ st,st,eB g hM ho hs (vs:=vs.take off++new++vs.drop (off+new.length)) (rest:=rest) (by simpa using e0) (e8 hr hnew off),fun _=>Iff.rfl,fun _=>rfl⟩
theorem wI (g:Good B c) (hl:∀id b,look id=some b→c.M id=some b) {t:TypeId} {a x:Operand} (ho:o.op=.store t a x) {p y v:AV} {d:Wr} (hp:A9 c p (ev a)) (hy:A9 c y (ev x)) (h:Uz P look t p y=some (v,d)):Fc P B n c (execOp ev o) v d:=by
 unfold Uz at h
 split at h
 ·rename_i id off cs sz hcs hsz
  cases hb:look id with
  |none=>simp [hb] at h
  |some b=>
   simp only [hb] at h
   cases hc:(Nat.beq cs.length sz && Nat.ble (off+cs.length) b.cells.length && cs.all B7) with
   |false=>simp [hc] at h
   |true=>
    simp only [hc,cond_true,Option.some.injEq,Prod.mk.injEq] at h
    obtain ⟨rfl,rfl⟩:=h
    simp only [Bool.and_eq_true] at hc
    obtain ⟨⟨h1,h2⟩,h3⟩:=hc
    obtain ⟨arr,vs,rest,k1,k2,k3,-⟩:=g.cells (hl id b hb)
    have hr:=G8 hy hcs
    have hlen:(ev x).cells.toList.length=sz:=by rw [← hr.length];exact Nat.eq_of_beq_eq_true h1
    have hle:off+(ev x).cells.toList.length≤vs.length:=by rw [← hr.length,← k3.length];exact Nat.le_of_ble_eq_true h2
    have ea:ev a=.pointer (some ⟨c.f id,off,none⟩):=by generalize ev a=u at hp;cases hp;rfl
    have hal:(vs++rest).length=arr.size:=by rw [← k2];simp
    have hst:=run_storeCells_at P (c.f id) off b.ty (ev x).cells.toList 0 arr c.w k1 (by simp at hal hle ⊢;omega) (cells_one hr h3)
    refine .wrote g (hl id b hb) k1 k2 k3 (new:=(ev x).cells.toList) hle hr (nx:=.skip) (v':=undef) ?_ (.inr ⟨rfl,rfl⟩) (fun c' _=> .El _)
    simp only [Nat.add_zero] at hst
    have hlen':(ev x).cells.size=sz:=by simpa using hlen
    simp only [execOp,ho,Instr.storeAt,ea,Instr.sureAddr,Sem.run_bind,Sem.run_pure,Result.andThen_ok,storeVar,C5 hsz,hlen',ne_eq,not_true_eq_false,if_false,hst]
 ·cases h
theorem bI (g:Good B c) {t:TypeId} {x:Operand} {fi:Nat} (ho:o.op=.fieldAddr t x fi) {y v:AV} {d:Wr} (hy:A9 c y (ev x)) (h:kG P t fi y=some (v,d)):Fc P B n c (execOp ev o) v d:=by
 unfold kG at h
 split at h
 ·rename_i id off
  split at h
  ·rename_i fs hu
   split at h
   ·rename_i fd hf
    split at h
    ·rename_i k hs
     simp only [Option.some.injEq,Prod.mk.injEq] at h
     obtain ⟨rfl,rfl⟩:=h
     generalize hev:ev x=u at hy
     cases hy with
     |ptr ha off=>
      refine .still g (v':=.pointer (some ⟨c.f id,off+fd.offset,none⟩)) ?_ (.ptr ha _)
      simp [execOp,ho,Instr.fieldAt,hev,run_underlying hu,hf,Instr.sureAddr,fieldPlace,C5 hs,Addr.add_lit]
    ·cases h
   ·cases h
  ·cases h
 ·rename_i cs off
  split at h
  ·rename_i fs hu
   split at h
   ·rename_i fd hf
    split at h
    ·rename_i k hs
     simp only [Option.some.injEq,Prod.mk.injEq] at h
     obtain ⟨rfl,rfl⟩:=h
     generalize hev:ev x=u at hy
     cases hy with
     |B6 hb hr hc off=>
      rename_i b o' vs
      refine .still g (v':=.pointer (some ⟨b,o'+(off+fd.offset),none⟩)) ?_ (.B6 hb hr hc _)
      simp [execOp,ho,Instr.fieldAt,hev,run_underlying hu,hf,Instr.sureAddr,fieldPlace,C5 hs,Addr.add_lit,Nat.add_assoc]
    ·cases h
   ·cases h
  ·cases h
 ·cases h
theorem iP {b o sz:Nat} {vs:List Value} {w:World} (hc:E4 w b o vs) (i:Nat):E4 w b (o+i*sz) ((vs.drop (i*sz)).take sz):=by
 intro k v hv
 rw [List.getElem?_take] at hv
 split at hv
 ·rw [List.getElem?_drop] at hv
  have:=hc _ v hv
  rwa [← Nat.add_assoc] at this
 ·cases hv
theorem Zu (g:Good B c) {t:TypeId} {x i:Operand} (ho:o.op=.indexAddr t x i) {y z v:AV} {d:Wr} (hy:A9 c y (ev x)) (hz:A9 c z (ev i)) (h:N4 P t y z=some (v,d)):Fc P B n c (execOp ev o) v d:=by
 unfold N4 at h
 split at h
 ·rename_i kk z
  have ei:ev i=.int kk z:=by generalize ev i=u at hz;cases hz;rfl
  split at h
  ·rename_i e hu
   split at h
   ·rename_i sz hs
    split at h
    ·rename_i id off esz m cap ex
     cases hq:(decide (0≤z) && decide (z<(m:Int))) with
     |false=>simp [hq] at h
     |true=>
      simp only [hq,cond_true,Option.some.injEq,Prod.mk.injEq] at h
      obtain ⟨rfl,rfl⟩:=h
      simp only [Bool.and_eq_true,decide_eq_true_eq] at hq
      generalize hev:ev x=u at hy
      cases hy with
      |sl ha hb hs' hn hc he hm=>
       refine .still g (v':=.pointer (some ⟨c.f id,off+z.toNat*sz,none⟩)) ?_ (.ptr ha _)
       simp [execOp,ho,Instr.indexAt,hev,ei,asIntOf,run_underlying hu,hq.1,hq.2,C5 hs,Addr.add_lit]
    ·rename_i m cs ex
     cases hq:(decide (0≤z) && decide (z<(m:Int))) with
     |false=>simp [hq] at h
     |true=>
      simp only [hq,cond_true,Option.some.injEq,Prod.mk.injEq] at h
      obtain ⟨rfl,rfl⟩:=h
      simp only [Bool.and_eq_true,decide_eq_true_eq] at hq
      generalize hev:ev x=u at hy
      cases hy with
      |Dy a cap ex he hm hn=>simp at hq;omega
      |Dh hb hr hc hn he hm=>
       rename_i b o' vs cap
       refine .still g (v':=.pointer (some ⟨b,o'+z.toNat*sz+0,none⟩)) ?_ (.B6 hb ((hr.drop _).take _) (iP hc _) 0)
       simp [execOp,ho,Instr.indexAt,hev,ei,asIntOf,run_underlying hu,hq.1,hq.2,C5 hs,Addr.add_lit]
    ·cases h
   ·cases h
  ·rename_i len e hu
   split at h
   ·rename_i sz hs
    split at h
    ·rename_i id off
     cases hq:(decide (0≤z) && decide (z<(len:Int))) with
     |false=>simp [hq] at h
     |true=>
      simp only [hq,cond_true,Option.some.injEq,Prod.mk.injEq] at h
      obtain ⟨rfl,rfl⟩:=h
      simp only [Bool.and_eq_true,decide_eq_true_eq] at hq
      generalize hev:ev x=u at hy
      cases hy with
      |ptr ha off=>
       refine .still g (v':=.pointer (some ⟨c.f id,off+z.toNat*sz,none⟩)) ?_ (.ptr ha _)
       simp [execOp,ho,Instr.indexAt,hev,ei,asIntOf,run_underlying hu,hq.1,hq.2,C5 hs,Addr.add_lit,Instr.sureAddr]
    ·rename_i cs off
     cases hq:(decide (0≤z) && decide (z<(len:Int))) with
     |false=>simp [hq] at h
     |true=>
      simp only [hq,cond_true,Option.some.injEq,Prod.mk.injEq] at h
      obtain ⟨rfl,rfl⟩:=h
      simp only [Bool.and_eq_true,decide_eq_true_eq] at hq
      generalize hev:ev x=u at hy
      cases hy with
      |B6 hb hr hc off=>
       rename_i b o' vs
       refine .still g (v':=.pointer (some ⟨b,o'+(off+z.toNat*sz),none⟩)) ?_ (.B6 hb hr hc _)
       simp [execOp,ho,Instr.indexAt,hev,ei,asIntOf,run_underlying hu,hq.1,hq.2,C5 hs,Addr.add_lit,Instr.sureAddr,Nat.add_assoc]
    ·cases h
   ·cases h
  ·cases h
 ·cases h
theorem l6 {cs:List AV} {vs:List Value} (hr:Be c cs vs) {t:TypeId} {off:Nat} {x:AV} (h:apart P t cs off=some x) (w:World):∃v',(part t vs.toArray off).run P w=.ok v' w∧A9 c x v':=by
 unfold apart at h
 cases hu:P.underlying t with
 |none=>simp [hu] at h
 |some d=>
  simp only [hu] at h
  cases hg:It d with
  |true=>
   rw [hg] at h
   simp only [cond_true] at h
   cases hz:Df P t with
   |none=>simp [hz] at h
   |some k=>
    simp only [hz] at h
    cases hb:Nat.ble (off+k) cs.length with
    |false=>simp [hb] at h
    |true=>
     simp only [hb,cond_true,Option.some.injEq] at h
     subst h
     refine ⟨.agg ((vs.drop off).take k).toArray,?_,.agg ((hr.drop off).take k)⟩
     have e:vs.toArray.extract off (off+k)=((vs.drop off).take k).toArray:=by apply Array.ext';simp [List.drop_take]
     simp only [part,Sem.run_bind,K7 hu,Result.andThen_ok,hg,if_true,C5 hz,Sem.run_pure,e]
  |false=>
   rw [hg] at h
   simp only [cond_false] at h
   obtain ⟨v',hv,hx⟩:=hr.get h
   refine ⟨v',?_,hx⟩
   simp [part,Sem.run_bind,K7 hu,Result.andThen_ok,hg,hv]
theorem zU (g:Good B c) {t:TypeId} {x:Operand} {fi:Nat} (ho:o.op=.field t x fi) {y v:AV} {d:Wr} (hy:A9 c y (ev x)) (h:aW P t fi y=some (v,d)):Fc P B n c (execOp ev o) v d:=by
 unfold aW at h
 split at h
 ·rename_i cs
  split at h
  ·rename_i fs hu
   split at h
   ·rename_i fd hf
    obtain ⟨y',hy',he⟩:=Option.map_eq_some_iff.1 h
    simp only [Prod.mk.injEq] at he
    obtain ⟨rfl,rfl⟩:=he
    generalize hev:ev x=u at hy
    cases hy with
    |agg hr=>
     obtain ⟨v',hrun,hv⟩:=l6 hr hy' c.w
     refine .still g (v':=v') ?_ hv
     simp [execOp,ho,Instr.field,hev,run_underlying hu,hf,asAgg,hrun]
   ·cases h
  ·cases h
 ·cases h
theorem y7 (g:Good B c) {t:TypeId} {x i:Operand} (ho:o.op=.index t x i) {y z v:AV} {d:Wr} (hy:A9 c y (ev x)) (hz:A9 c z (ev i)) (h:P1 P t y z=some (v,d)):Fc P B n c (execOp ev o) v d:=by
 unfold P1 at h
 split at h
 ·rename_i cs kk z
  have ei:ev i=.int kk z:=by generalize ev i=u at hz;cases hz;rfl
  split at h
  ·rename_i len e hu
   split at h
   ·rename_i sz hs
    cases hq:(decide (0≤z) && decide (z<(len:Int))) with
    |false=>simp [hq] at h
    |true=>
     simp only [hq,cond_true] at h
     obtain ⟨y',hy',he⟩:=Option.map_eq_some_iff.1 h
     simp only [Prod.mk.injEq] at he
     obtain ⟨rfl,rfl⟩:=he
     simp only [Bool.and_eq_true,decide_eq_true_eq] at hq
     generalize hev:ev x=u at hy
     cases hy with
     |agg hr=>
      obtain ⟨v',hrun,hv⟩:=l6 hr hy' c.w
      refine .still g (v':=v') ?_ hv
      simp [execOp,ho,Instr.index,hev,ei,asIntOf,run_underlying hu,hq.1,hq.2,C5 hs,hrun]
   ·cases h
  ·cases h
 ·cases h
theorem iS (g:Good B c) {x:Operand} {i:Nat} (ho:o.op=.extract x i) {vs:List AV} (hy:A9 c (.Bn vs) (ev x)) {v:AV} (h:vs[i]?=some v):Fc P B n c (execOp ev o) v []:=by
 generalize hev:ev x=u at hy
 cases hy with
 |Bn hr=>
  obtain ⟨v',hv,hx⟩:=hr.get h
  refine .still g (v':=v') ?_ hx
  simp [execOp,ho,Instr.extract,hev,hv]
def Anr:AV→Bool
 |.ptr ..|.B6 ..|.fn ..=>true
 |_=>false
theorem Ls (g:Good B c) {x:Operand} (ho:o.op=.nilCheck x) {y:AV} (hy:A9 c y (ev x)) (h:Anr y=true):Fc P B n c (execOp ev o) y []:=by
 generalize hev:ev x=u at hy
 cases hy with
 |ptr ha off=>exact .still g (by simp [execOp,ho,hev]) (.ptr ha off)
 |B6 hb hr hc off=>exact .still g (by simp [execOp,ho,hev]) (.B6 hb hr hc off)
 |fn f hr=>exact .still g (by simp [execOp,ho,hev]) (.fn f hr)
 |_=>simp [Anr] at h
theorem J8 {l:List Operand} (hρ:∀x∈l,∀y,ρ x=some y→A9 c y (ev x)) {ys:List AV} (h:opts ρ l=some ys):Be c ys (l.map ev):=by
 induction l generalizing ys with
 |nil=>simp only [opts,Option.some.injEq] at h;subst h;exact .nil
 |cons x r ih=>
  unfold opts at h
  cases h1:ρ x with
  |none=>simp [h1] at h
  |some v=>
   cases h2:opts ρ r with
   |none=>simp [h1,h2] at h
   |some vs=>
    simp only [h1,h2,Option.some.injEq] at h
    subst h
    exact .cons (hρ x (by simp) v h1) (ih (fun y hy=>hρ y (by simp [hy])) h2)
theorem cF (g:Good B c) {f:FuncId} {first caps:Array Operand} (ho:o.op=.makeFunc (.func f) first caps) (hf:first.toList=[]) (hρ:∀x∈caps.toList,∀y,ρ x=some y→A9 c y (ev x)) {l:List AV} (h:opts ρ caps.toList=some l):Fc P B n c (execOp ev o) (.fn f l) []:=by
 have hf':first=#[]:=by apply Array.ext';simpa using hf
 subst hf'
 have hr:=J8 hρ h
 have e:(caps.toList.map ev).toArray=caps.map ev:=by apply Array.ext';simp
 have hv:=A9.fn (c:=c) f hr
 rw [e] at hv
 exact .still g (by simp [execOp,ho,Instr.makeFunc]) hv
end
end Go.Proofs.YtmechmjjcgdpdaaGreatDoor
set_option linter.unusedVariables false
set_option linter.unusedSimpArgs false
namespace Go.Proofs.YtmechmjjcgdpdaaGreatDoor
open Go.RowKit
section
variable {P:Program} {B n:Nat} {c:Cx} {ev:Operand→Value} {ρ:Operand→Option AV} {look:Nat→Option Bk} {o:Oper}
theorem cY (off:Nat):∀(l:List Value) (k:Nat) (cs:Array Value),off+k+l.length≤cs.size→
  (l.zipIdx k).foldl (fun cs p=>cs.setIfInBounds (off+p.2) p.1) cs=(cs.toList.take (off+k)++l++cs.toList.drop (off+k+l.length)).toArray
 |[],k,cs,h=>by simp
 |v::r,k,cs,h=>by
  simp only [List.length_cons] at h
  rw [List.zipIdx_cons,List.foldl_cons]
  have ih:=cY off r (k+1) (cs.setIfInBounds (off+k) v) (by simp;omega)
  simp only [Nat.zero_add] at ih ⊢
  rw [ih]
  have e:=list_seg_step cs.toList (off+k) v r (by simp;omega)
  simp only [List.length_cons]
  rw [← e]
  simp [Array.toList_setIfInBounds,Nat.add_assoc]
theorem gZ (off:Nat) (v cs:Array Value) (h:off+v.size≤cs.size):
  v.zipIdx.foldl (fun cs (c,j)=>cs.setIfInBounds (off+j) c) cs=(cs.toList.take off++v.toList++cs.toList.drop (off+v.size)).toArray:=by
 rw [← Array.foldl_toList]
 have:=cY off v.toList 0 cs (by simpa using h)
 simpa using this
inductive x8 (c:Cx):List (Nat×AV)→List (Nat×Value)→Prop
 |nil:x8 c [] []
 |cons {i:Nat} {x:AV} {v:Value} {xs:List (Nat×AV)} {vs:List (Nat×Value)} (h:A9 c x v) (t:x8 c xs vs):x8 c ((i,x)::xs) ((i,v)::vs)
theorem Vz {place:Nat→Option (Nat×Nat)} {l:List (Nat×AV)} {l':List (Nat×Value)} (hl:x8 c l l'):∀{zs cs:List AV} {vs:List Value},Be c zs vs→Lg place zs l=some cs→∃us,Instr.fill place vs.toArray l'=some us.toArray∧Be c cs us:=by
 induction hl with
 |nil=>intro zs cs vs hr h;simp only [Lg,Option.some.injEq] at h;subst h;exact ⟨vs,rfl,hr⟩
 |cons hx ht ih=>
  rename_i i x v xs vs'
  intro zs cs vs hr h
  unfold Lg at h
  split at h
  ·rename_i off size cs' hp hc
   cases hq:(Nat.beq cs'.length size && Nat.ble (off+size) zs.length) with
   |false=>simp [hq] at h
   |true=>
    simp only [hq,cond_true] at h
    simp only [Bool.and_eq_true] at hq
    have hcr:=G8 hx hc
    have h1:v.cells.size=size:=by have:=hcr.length;simp at this;rw [← this];exact Nat.eq_of_beq_eq_true hq.1
    have h2:off+size≤vs.length:=by rw [← hr.length];exact Nat.le_of_ble_eq_true hq.2
    obtain ⟨us,hu,hur⟩:=ih (e8 hr hcr off) h
    refine ⟨us,?_,hur⟩
    unfold Instr.fill
    have hf:=gZ off v.cells vs.toArray (by simpa [h1] using h2)
    have hcond:(decide (v.cells.size≠size)||decide (off+v.cells.size>vs.toArray.size))=false:=by simp [h1];omega
    simp only [hp,hcond]
    simp only [Bool.false_eq_true,if_false]
    rw [hf]
    simpa using hu
  ·cases h
theorem Q9:∀{l:List (Nat×Operand)},(∀p∈l,∀y,ρ p.2=some y→A9 c y (ev p.2))→∀{ys:List (Nat×AV)},Gq ρ l=some ys→x8 c ys (l.map fun p=>(p.1,ev p.2))
 |[],_,ys,h=>by simp only [Gq,Option.some.injEq] at h;subst h;exact .nil
 |(i,x)::r,hρ,ys,h=>by
  unfold Gq at h
  cases h1:ρ x with
  |none=>simp [h1] at h
  |some v=>
   cases h2:Gq ρ r with
   |none=>simp [h1,h2] at h
   |some vs=>
    simp only [h1,h2,Option.some.injEq] at h
    subst h
    exact .cons (hρ (i,x) (by simp) v h1) (Q9 (fun p hp=>hρ p (by simp [hp])) h2)
theorem run_places:∀{fs:List Field} {pl:List (Nat×Nat)},placesOf P fs=some pl→∀w,(fs.mapM fun f=>do pure (f.offset,← sizeOf f.type):Sem (List (Nat×Nat))).run P w=.ok pl w
 |[],pl,h,w=>by simp only [placesOf,Option.some.injEq] at h;subst h;simp
 |f::r,pl,h,w=>by
  unfold placesOf at h
  cases h1:Df P f.type with
  |none=>simp [h1] at h
  |some k=>
   cases h2:placesOf P r with
   |none=>simp [h1,h2] at h
   |some l=>
    simp only [h1,h2,Option.some.injEq] at h
    subst h
    have:=run_places h2 w
    simp only [List.mapM_cons,Sem.run_bind,C5 h1,this,Result.andThen_ok,Sem.run_pure]
theorem Aax {t:TypeId} {zs:List AV} (h:(Fy P t).bind Gn=some (.agg zs)) (c:Cx):∃z vs,Fy P t=some z∧z.cells=vs.toArray∧Be c zs vs:=by
 obtain ⟨z,hz,hv⟩:=Option.bind_eq_some_iff.1 h
 have:=Ij hv c
 cases this with
 |agg hr=>rename_i vs;exact ⟨_,vs,hz,rfl,hr⟩
theorem Aaa (g:Good B c) {t:TypeId} {parts:Array (Nat×Operand)} (ho:o.op=.build t parts) (hρ:∀p∈parts.toList,∀y,ρ p.2=some y→A9 c y (ev p.2)) {ys:List (Nat×AV)} (hp:Gq ρ parts.toList=some ys) {v:AV} {d:Wr} (h:gT P t ys=some (v,d)):Fc P B n c (execOp ev o) v d:=by
 have hpr:=Q9 hρ hp
 have epl:(parts.map fun (i,x)=>(i,ev x)).toList=parts.toList.map fun p=>(p.1,ev p.2):=by simp
 unfold gT at h
 split at h
 ·rename_i zs hz
  obtain ⟨z,vs,h1,h2,h3⟩:=Aax hz c
  split at h
  ·rename_i fs hu
   split at h
   ·rename_i pl hpl
    obtain ⟨cs,hcs,he⟩:=Option.map_eq_some_iff.1 h
    simp only [Prod.mk.injEq] at he
    obtain ⟨rfl,rfl⟩:=he
    obtain ⟨us,hf,hr⟩:=Vz hpr h3 hcs
    refine .still g (v':=.agg us.toArray) ?_ (.agg hr)
    have hm:(fs.mapM fun f=>do pure (f.offset,← sizeOf f.type):Sem (Array (Nat×Nat))).run P c.w=.ok pl.toArray c.w:=by
     rw [Array.mapM_eq_mapM_toList,map_eq_pure_bind]
     have:=run_places hpl c.w
     simp only [Sem.run_bind,this,Result.andThen_ok,Sem.run_pure]
    simp only [execOp,ho,Instr.build,Sem.run_bind,J6 h1,Result.andThen_ok,run_underlying hu,hm,h2,epl]
    have:(fun i:Nat=>pl.toArray[i]?)=fun i:Nat=>pl[i]?:=by funext i;simp
    simp only [this,hf,Sem.run_pure,Result.andThen_ok]
   ·cases h
  ·rename_i len e hu
   split at h
   ·rename_i sz hs
    obtain ⟨cs,hcs,he⟩:=Option.map_eq_some_iff.1 h
    simp only [Prod.mk.injEq] at he
    obtain ⟨rfl,rfl⟩:=he
    obtain ⟨us,hf,hr⟩:=Vz hpr h3 hcs
    refine .still g (v':=.agg us.toArray) ?_ (.agg hr)
    simp only [execOp,ho,Instr.build,Sem.run_bind,J6 h1,Result.andThen_ok,run_underlying hu,C5 hs,h2,epl,hf,Sem.run_pure]
   ·cases h
  ·cases h
 ·cases h
theorem N8 (f:Nat→Value):(Array.range 0).map f=([]:List Value).toArray:=by apply Array.ext';simp
theorem M8 {zs:List AV} {vs:List Value} (h:Be c zs vs):∀k,Be c (rep zs k) (rep vs k)
 |0=> .nil
 |k+1=>h.append (M8 h k)
theorem Jg {α:Type} (zs:List α):∀k,(rep zs k).length=k*zs.length
 |0=>by simp [rep]
 |k+1=>by simp [rep,Jg zs k,Nat.succ_mul];omega
theorem k8 {α:Type} (zs:List α) (hz:0<zs.length):∀(k i:Nat),i<k*zs.length→(rep zs k)[i]?=zs[i % zs.length]?
 |0,i,h=>by simp at h
 |k+1,i,h=>by
  rw [Nat.succ_mul] at h
  unfold rep
  by_cases hi:i<zs.length
  ·rw [List.getElem?_append_left hi,Nat.mod_eq_of_lt hi]
  ·rw [List.getElem?_append_right (by omega),k8 zs hz k (i-zs.length) (by omega),Nat.mod_eq_sub_mod (by omega:zs.length≤i)]
theorem Q6 (z:Array Value) (hz:0<z.size) (k:Nat):(Array.range (k*z.size)).map (z[· % z.size]!)=(rep z.toList k).toArray:=by
 apply Array.ext'
 apply List.ext_getElem?
 intro i
 have hl:=Jg z.toList k
 simp only [Array.toList_map,Array.toList_range,List.getElem?_map]
 by_cases hi:i<k*z.size
 ·have h2:=k8 z.toList (by simpa using hz) k i (by simpa using hi)
  simp only [Array.length_toList] at h2
  rw [h2,List.getElem?_range hi]
  have hm:i % z.size<z.size:=Nat.mod_lt _ hz
  simp [hm]
 ·rw [List.getElem?_eq_none (by simpa using hi),List.getElem?_eq_none (by simp [hl];omega)];rfl
theorem Ju (z:Array Value) (hz:0<z.size) (k:Nat):(Builtin.zeroCells z k).toList=rep z.toList k:=by
 unfold Builtin.zeroCells;rw [Q6 z hz k]
theorem Kt {e:TypeId} {zs:List AV} (h:(Fy P e).bind (fun z=>(Gn z).bind C3)=some zs) (c:Cx):∃z,Fy P e=some z∧Be c zs z.cells.toList:=by
 obtain ⟨z,hz,h⟩:=Option.bind_eq_some_iff.1 h
 obtain ⟨x,hx,h⟩:=Option.bind_eq_some_iff.1 h
 exact ⟨z,hz,G8 (Ij hx c) h⟩
theorem cX {e:TypeId} {zs:List AV} (h:(Fy P e).bind jP=some zs) (c:Cx):∃z,Fy P e=some z∧Be c zs z.cells.toList:=by
 obtain ⟨z,hz,h⟩:=Option.bind_eq_some_iff.1 h
 unfold jP at h
 split at h
 ·cases h;exact ⟨_,hz,Be.one (.El _)⟩
 ·obtain ⟨x,hx,h⟩:=Option.bind_eq_some_iff.1 h
  exact ⟨z,hz,G8 (Ij hx c) h⟩
theorem U1 {arr:Array Value} {T:TypeId} {cells:List AV} {esz k cap cap':Nat} {ex:Bool} (hs:cap'*esz≤arr.size) (hk:k≤cap) (hc:cap≤cap') (he:ex=true→cap'=cap) (hm:cap'≤maxLen):
  A9 (c.new n arr T cells) (.sl n 0 esz k cap ex) (.slice (some ⟨c.w.heap.size,0,none⟩) k cap'):=by
 have h:(c.new n arr T cells).f n=c.w.heap.size:=by simp [Cx.new]
 have:=A9.sl (c:=c.new n arr T cells) (id:=n) (off:=0) (esz:=esz) (n:=k) (cap:=cap) (cap':=cap') (ex:=ex) (arr:=arr) (T:=T) (.inr rfl) (by rw [h];exact Ug _ _) (by simpa using hs) hk hc he hm
 rwa [h] at this
theorem Wk (g:Good B c) (hn:¬c.al n) {t:TypeId} {len:Nat} {parts:Array (Nat×Operand)} (ho:o.op=.buildSlice t len parts) (hρ:∀p∈parts.toList,∀y,ρ p.2=some y→A9 c y (ev p.2)) {ys:List (Nat×AV)} (hp:Gq ρ parts.toList=some ys) {v:AV} {d:Wr} (h:Me P n t len ys=some (v,d)):Fc P B n c (execOp ev o) v d:=by
 have hpr:=Q9 hρ hp
 have epl:(parts.map fun (i,x)=>(i,ev x)).toList=parts.toList.map fun p=>(p.1,ev p.2):=by simp
 unfold Me at h
 split at h
 ·rename_i e hu
  split at h
  ·rename_i sz zs hs hz
   cases hq:(Nat.ble (len*sz) 16777216 && Nat.beq zs.length sz && Nat.ble 1 sz) with
   |false=>simp [hq] at h
   |true=>
    simp only [hq,cond_true] at h
    simp only [Bool.and_eq_true] at hq
    obtain ⟨⟨q1,q2⟩,q3⟩:=hq
    have q1:=Nat.le_of_ble_eq_true q1
    have q2:=Nat.eq_of_beq_eq_true q2
    have q3:=Nat.le_of_ble_eq_true q3
    split at h
    ·rename_i cs hcs
     simp only [Option.some.injEq,Prod.mk.injEq] at h
     obtain ⟨rfl,rfl⟩:=h
     obtain ⟨z,hz1,hz2⟩:=cX hz c
     have hzl:z.cells.size=sz:=by have:=hz2.length;simp at this;omega
     obtain ⟨us,hf,hr⟩:=Vz hpr (M8 hz2 len) hcs
     have hul:us.length=len*sz:=by
      have hal:∀{l:List (Nat×AV)} {a b:List AV},Lg (fun i=>some (i*sz,sz)) a l=some b→b.length=a.length:=by
       intro l
       induction l with
       |nil=>intro a b h;simp only [Lg,Option.some.injEq] at h;rw [h]
       |cons p r ih=>
        obtain ⟨i,x⟩:=p
        intro a b h
        unfold Lg at h
        split at h
        ·rename_i off size cs' hp hc
         cases hq:(Nat.beq cs'.length size && Nat.ble (off+size) a.length) with
         |false=>simp [hq] at h
         |true=>
          simp only [hq,cond_true] at h
          simp only [Bool.and_eq_true] at hq
          have e1:=Nat.eq_of_beq_eq_true hq.1
          have e2:=Nat.le_of_ble_eq_true hq.2
          rw [ih h];simp [C9];omega
        ·cases h
      rw [← hr.length,hal hcs,Jg,q2]
     refine .made g hn (arr:=us.toArray) (rest:=[]) (by simp) hr ?_ (U1 (by simp [hul]) (Nat.le_refl _) (Nat.le_refl _) (fun _=>rfl) (by unfold maxLen;have:len≤len*sz:=Nat.le_mul_of_pos_right _ q3;omega))
     have hnot:¬(len*sz>2 ^ 24):=by omega
     simp only [execOp,ho,Instr.buildSlice,Sem.run_bind,run_underlying hu,Result.andThen_ok,C5 hs,hnot,if_false,Sem.run_pure]
     by_cases h0:len*sz=0
     ·have hl0:len=0:=by
       rcases Nat.mul_eq_zero.1 h0 with h|h
       ·exact h
       ·omega
      subst hl0
      simp only [rep] at hf
      simp only [Nat.zero_mul,if_true,Sem.run_bind,Sem.run_pure,Result.andThen_ok]
      have e0:(Array.range 0).map ((#[]:Array Value)[· % (#[]:Array Value).size]!)=([]:List Value).toArray:=N8 _
      rw [N8,epl,hf]
      simp [newRow,newObj];rfl
     ·have hc:=Q6 z.cells (by omega) len
      rw [hzl] at hc
      simp only [h0,if_false,Sem.run_bind,J6 hz1,Result.andThen_ok,Sem.run_pure,hzl,hc,epl,hf]
      simp [newRow,newObj];rfl
    ·cases h
  ·cases h
 ·cases h
theorem Yj (g:Good B c) (hn:¬c.al n) {t:TypeId} {l k:Operand} (ho:o.op=.makeSlice t l k) {x y v:AV} {d:Wr} (hx:A9 c x (ev l)) (hy:A9 c y (ev k)) (h:N7 P n t x y=some (v,d)):Fc P B n c (execOp ev o) v d:=by
 unfold N7 at h
 split at h
 ·rename_i x y
  have el:ev l=.int .i64 x:=by generalize ev l=u at hx;cases hx;rfl
  have ek:ev k=.int .i64 y:=by generalize ev k=u at hy;cases hy;rfl
  split at h
  ·rename_i e hu
   split at h
   ·rename_i sz by_ zs hs hb hz
    cases hq:(decide (0≤x) && decide (x≤y) && decide (y*(by_:Int)≤140737488355328) && decide (y≤4611686018427387904) && Nat.beq zs.length sz && Nat.ble 1 sz) with
    |false=>simp [hq] at h
    |true=>
     simp only [hq,cond_true,Option.some.injEq,Prod.mk.injEq] at h
     obtain ⟨rfl,rfl⟩:=h
     simp only [Bool.and_eq_true,decide_eq_true_eq] at hq
     obtain ⟨⟨⟨⟨⟨q1,q2⟩,q3⟩,q4⟩,q5⟩,q6⟩:=hq
     have q5:=Nat.eq_of_beq_eq_true q5
     have q6:=Nat.le_of_ble_eq_true q6
     obtain ⟨z,hz1,hz2⟩:=Kt hz c
     have hzl:z.cells.size=sz:=by have:=hz2.length;simp at this;omega
     obtain ⟨i,hi,hib⟩:=qO hb c.w
     have hc:=Q6 z.cells (by omega) y.toNat
     rw [hzl] at hc
     have ww:∀a:Int,0≤a→a≤4611686018427387904→IntKind.i64.wrap a=a:=fun a h1 h2=>IntWalk.i64_in a (by omega)
     refine .made g hn (arr:=(rep z.cells.toList y.toNat).toArray) (vs:=rep z.cells.toList y.toNat) (rest:=[]) (by simp) (M8 hz2 _) ?_ (U1 (by simp [Jg,hzl]) (by omega) (Nat.le_refl _) (fun _=>rfl) (by unfold maxLen;omega))
     have t1:(decide (y<0)||decide ((by_:Int)*y>2 ^ 48))=false:=by
      rw [Int.mul_comm];simp;omega
     have t2:¬(y*(by_:Int)<0):=by have:=Int.mul_nonneg (by omega:0≤y) (by omega:0≤(by_:Int));omega
     simp only [execOp,ho,Instr.makeSlice,Sem.run_bind,run_underlying hu,Result.andThen_ok,el,ek,asInt,asIntOf,Sem.run_pure,hi,hib,ww x q1 (by omega),ww y (by omega) q4,t1]
     have c1:(false||decide (x<0)||decide (x>y))=false:=by simp;omega
     simp only [c1,Bool.false_eq_true,if_false,Sem.run_bind,Sem.run_pure,Result.andThen_ok,run_askRoom,C5 hs]
     by_cases h0:y.toNat*sz=0
     ·have hl0:y.toNat=0:=by
       rcases Nat.mul_eq_zero.1 h0 with h|h
       ·exact h
       ·omega
      simp only [hl0,Nat.zero_mul,if_true,Sem.run_pure,Result.andThen_ok,rep,N8]
      simp [newRow,newObj];rfl
     ·simp only [h0,if_false,Sem.run_bind,J6 hz1,Result.andThen_ok,Sem.run_pure,hzl,hc]
      simp [newRow,newObj];rfl
   ·cases h
  ·cases h
 ·cases h
end
end Go.Proofs.YtmechmjjcgdpdaaGreatDoor
