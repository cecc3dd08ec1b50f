/- A part. -/
import Derived.Test.YtmhnnmfcjdnlhaaGreatDoorBase
import Derived.Test.YtmhnnmfcjdnlhaaGreatDoorLax
import Derived.Orders
import Derived.Below
import Derived.Laws.CopyRow
import Derived.Laws.Cells
import Derived.Laws.Tables
import Derived.Laws.Entries
import Derived.Laws.World
import Derived.Deep.Upon
import Derived.Laws.IdiomStrings
import Derived.Room.Entries
set_option linter.unusedVariables false
set_option linter.unusedSimpArgs false
namespace Go.Proofs.YtmhnnmfcjdnlhaaGreatDoor
inductive AV where
 |E9
 |sc (v:Value)
 |agg (cs:List AV)
 |B4 (vs:List AV)
 |Ki
 |ptr (id off:Nat)
 |Dn (cs:List AV) (off:Nat)
 |B1
 |Ek (n:Nat) (cs:List AV) (ex:Bool)
 |sl (id off esz n cap:Nat) (ex:Bool)
 |fn (f:FuncId) (cs:List AV)
 |oN (p:Bool)
 deriving Inhabited
structure B5 where
 cells:List AV
 ty:TypeId
 deriving Inhabited
def Of:Value→Bool
 |.bool _|.int _ _|.string _|.float _ _|.slice _ _ _=>true
 |_=>false
structure Cx where
 w:World
 f:Nat→Nat
 al:Nat→Prop
 M:Nat→Option B5
 no:Nat→Prop
def Cx.own (c:Cx) (b:Nat):Prop:=∃id Cr,c.M id=some Cr∧c.f id=b
def Cx.Ch (c:Cx) (b:Nat):Prop:=b<c.w.heap.size∧¬c.own b∧¬c.no b
def Iq (w:World) (b o:Nat) (vs:List Value):Prop:=∀k v,vs[k]?=some v→w.cell? ⟨b,o+k,none⟩=some v
mutual
inductive B9 (c:Cx):AV→Value→Prop
 |E9 (v:Value):B9 c .E9 v
 |sc (v:Value) (h:Of v=true):B9 c (.sc v) v
 |agg {cs:List AV} {vs:List Value} (h:Cf c cs vs):B9 c (.agg cs) (.agg vs.toArray)
 |B4 {cs:List AV} {vs:List Value} (h:Cf c cs vs):B9 c (.B4 cs) (.tuple vs.toArray)
 |Ki:B9 c .Ki (.pointer none)
 |ptr {id:Nat} (h:c.al id) (off:Nat):B9 c (.ptr id off) (.pointer (some ⟨c.f id,off,none⟩))
 |Dn {b o:Nat} {cs:List AV} {vs:List Value} (hb:c.Ch b) (h:Cf c cs vs) (hc:Iq c.w b o vs) (off:Nat):B9 c (.Dn cs off) (.pointer (some ⟨b,o+off,none⟩))
 |B1:B9 c .B1 (.slice none 0 0)
 |Ga (a:Option Addr) (cap:Nat) (ex:Bool) (he:ex=true→cap=0) (hm:cap≤maxLen) (hn:a=none→cap=0):B9 c (.Ek 0 [] ex) (.slice a 0 cap)
 |Ek {b o n:Nat} {cs:List AV} {vs:List Value} {cap:Nat} {ex:Bool} (hb:c.Ch b) (h:Cf c cs vs) (hc:Iq c.w b o vs) (hn:n≤cap) (he:ex=true→cap=n) (hm:cap≤maxLen):B9 c (.Ek n cs ex) (.slice (some ⟨b,o,none⟩) n cap)
 |sl {id off esz n cap cap':Nat} {ex:Bool} {arr:Array Value} {T:TypeId} (h:c.al id) (hb:c.w.heap[c.f id]?=some (.cells arr T)) (hs:off+cap'*esz≤arr.size) (hn:n≤cap) (hc:cap≤cap') (he:ex=true→cap'=cap) (hm:cap'≤maxLen):B9 c (.sl id off esz n cap ex) (.slice (some ⟨c.f id,off,none⟩) n cap')
 |fn (f:FuncId) {cs:List AV} {vs:List Value} (h:Cf c cs vs):B9 c (.fn f cs) (.func (.func f) #[] vs.toArray)
 |Pj:B9 c (.oN true) .nilIface
 |Qe (u:TypeId) (v:Value):B9 c (.oN false) (.iface u v)
inductive Cf (c:Cx):List AV→List Value→Prop
 |nil:Cf c [] []
 |cons {x:AV} {v:Value} {xs:List AV} {vs:List Value} (h:B9 c x v) (t:Cf c xs vs):Cf c (x::xs) (v::vs)
end
def dr (w:World):Nat:=bif lax then 0 else w.drawn
theorem xL {w w':World} (h:w.drawn≤w'.drawn):dr w≤dr w':=by unfold dr;cases lax<;>simp [h]
structure Step (c c':Cx):Prop where
 os:c'.w.os=c.w.os
 tape:c'.w.tape=c.w.tape
 output:c'.w.output=c.w.output
 size:c.w.heap.size≤c'.w.heap.size
 Cr:∀b,b<c.w.heap.size→¬c.own b→c'.w.heap[b]?=c.w.heap[b]?
 own:∀b,b<c.w.heap.size→c'.own b→c.own b
 f:∀id,c.al id→c'.f id=c.f id
 al:∀id,c.al id→c'.al id
 no:∀b,c'.no b↔c.no b
 Yf:∀(b:Nat) (arr:Array Value) (T:TypeId),c.w.heap[b]?=some (.cells arr T)→∃arr':Array Value,c'.w.heap[b]?=some (.cells arr' T)∧arr'.size=arr.size
 drawn:dr c.w≤dr c'.w
theorem Step.refl (c:Cx):Step c c:=⟨rfl,rfl,rfl,Nat.le_refl _,fun _ _ _=>rfl,fun _ _ h=>h,fun _ _=>rfl,fun _ h=>h,fun _=>Iff.rfl,fun b arr T h=>⟨arr,h,rfl⟩,Nat.le_refl _⟩
theorem Step.trans {a b c:Cx} (h:Step a b) (k:Step b c):Step a c where
 os:=k.os.trans h.os
 tape:=k.tape.trans h.tape
 output:=k.output.trans h.output
 size:=Nat.le_trans h.size k.size
 Cr:=fun x hx hn=>(k.Cr x (Nat.lt_of_lt_of_le hx h.size) (fun ho=>hn (h.own x hx ho))).trans (h.Cr x hx hn)
 own:=fun x hx ho=>h.own x hx (k.own x (Nat.lt_of_lt_of_le hx h.size) ho)
 f:=fun id hi=>(k.f id (h.al id hi)).trans (h.f id hi)
 al:=fun id hi=>k.al id (h.al id hi)
 no:=fun b=>(k.no b).trans (h.no b)
 Yf:=fun b arr T hb=>by
  obtain ⟨a1,h1,s1⟩:=h.Yf b arr T hb
  obtain ⟨a2,h2,s2⟩:=k.Yf b a1 T h1
  exact ⟨a2,h2,s2.trans s1⟩
 drawn:=Nat.le_trans h.drawn k.drawn
theorem Step.Ch {c c':Cx} (h:Step c c') {b:Nat} (hb:c.Ch b):c'.Ch b:=⟨Nat.lt_of_lt_of_le hb.1 h.size,fun ho=>hb.2.1 (h.own b hb.1 ho),fun hn=>hb.2.2 ((h.no b).1 hn)⟩
theorem Step.bO {c c':Cx} (h:Step c c') {b o:Nat} {vs:List Value} (hb:c.Ch b) (hc:Iq c.w b o vs):Iq c'.w b o vs:=by
 intro k v hv
 have:=hc k v hv
 unfold World.cell? at this ⊢
 rw [h.Cr b hb.1 hb.2.1];exact this
mutual
theorem B9.step {c c':Cx} (s:Step c c') {x:AV} {v:Value}:B9 c x v→B9 c' x v
 |.E9 v=> .E9 v
 |.sc v h=> .sc v h
 |.agg h=> .agg (Cf.step s h)
 |.B4 h=> .B4 (Cf.step s h)
 |.Ki=> .Ki
 |.ptr (id:=id) h off=>s.f id h ▸ B9.ptr (s.al id h) off
 |.Dn hb h hc off=> .Dn (s.Ch hb) (Cf.step s h) (s.bO hb hc) off
 |.B1=> .B1
 |.Ga a cap ex he hm hn=> .Ga a cap ex he hm hn
 |.Ek hb h hc hn he hm=> .Ek (s.Ch hb) (Cf.step s h) (s.bO hb hc) hn he hm
 |.sl (id:=id) (off:=off) (arr:=arr) (T:=T) h hb hs hn hc he hm=>by
  obtain ⟨a',h',hz⟩:=s.Yf _ arr T hb
  rw [← s.f id h]
  exact .sl (s.al id h) (by rw [s.f id h];exact h') (by rw [hz];exact hs) hn hc he hm
 |.fn f h=> .fn f (Cf.step s h)
 |.Pj=> .Pj
 |.Qe u v=> .Qe u v
theorem Cf.step {c c':Cx} (s:Step c c') {xs:List AV} {vs:List Value}:Cf c xs vs→Cf c' xs vs
 |.nil=> .nil
 |.cons h t=> .cons (B9.step s h) (Cf.step s t)
end
theorem Cf.length {c:Cx} {xs:List AV} {vs:List Value} (h:Cf c xs vs):xs.length=vs.length:=by
 induction xs generalizing vs with
 |nil=>cases h;rfl
 |cons x xs ih=>cases h with|cons h t=>simp [ih t]
theorem Cf.get {c:Cx} {xs:List AV} {vs:List Value} (h:Cf c xs vs) {k:Nat} {x:AV} (hk:xs[k]?=some x):∃v,vs[k]?=some v∧B9 c x v:=by
 induction xs generalizing vs k with
 |nil=>simp at hk
 |cons y xs ih=>
  cases h with
  |cons h t=>
   cases k with
   |zero=>simp at hk;subst hk;exact ⟨_,rfl,h⟩
   |succ k=>simpa using ih t (by simpa using hk)
theorem Cf.append {c:Cx} {xs ys:List AV} {vs us:List Value} (h:Cf c xs vs) (k:Cf c ys us):Cf c (xs++ys) (vs++us):=by
 induction xs generalizing vs with
 |nil=>cases h;exact k
 |cons x xs ih=>cases h with|cons h t=>exact .cons h (ih t)
theorem Cf.take {c:Cx} {xs:List AV} {vs:List Value} (h:Cf c xs vs) (n:Nat):Cf c (xs.take n) (vs.take n):=by
 induction n generalizing xs vs with
 |zero=>simp;exact .nil
 |succ n ih=>
  cases h with
  |nil=>exact .nil
  |cons h t=>exact .cons h (ih t)
theorem Cf.drop {c:Cx} {xs:List AV} {vs:List Value} (h:Cf c xs vs) (n:Nat):Cf c (xs.drop n) (vs.drop n):=by
 induction n generalizing xs vs with
 |zero=>exact h
 |succ n ih=>
  cases h with
  |nil=>exact .nil
  |cons h t=>exact ih t
theorem Cf.set {c:Cx} {xs:List AV} {vs:List Value} (h:Cf c xs vs) (k:Nat) {x:AV} {v:Value} (hx:B9 c x v):Cf c (xs.set k x) (vs.set k v):=by
 induction xs generalizing vs k with
 |nil=>cases h;exact .nil
 |cons y xs ih=>
  cases h with
  |cons h t=>
   cases k with
   |zero=>exact .cons hx t
   |succ k=>exact .cons h (ih t k)
theorem Cf.one {c:Cx} {x:AV} {v:Value} (h:B9 c x v):Cf c [x] [v]:=.cons h .nil
structure Good (B:Nat) (c:Cx):Prop where
 hB:B≤c.w.heap.size
 low:∀id Cr,c.M id=some Cr→B≤c.f id∧c.al id
 Cr:∀id Cr,c.M id=some Cr→∃(arr:Array Value) (vs rest:List Value),c.w.heap[c.f id]?=some (.cells arr Cr.ty)∧arr.toList=vs++rest∧Cf c Cr.cells vs
 K6:∀b,c.no b→b<B
 inj:∀id id' Cr blk',c.M id=some Cr→c.M id'=some blk'→c.f id=c.f id'→id=id'
theorem Hl {w:World} {b:Nat} {o:Obj} (h:w.heap[b]?=some o):b<w.heap.size:=by
 rcases Nat.lt_or_ge b w.heap.size with h'|h'
 ·exact h'
 ·rw [Array.getElem?_eq_none h'] at h;cases h
end Go.Proofs.YtmhnnmfcjdnlhaaGreatDoor
set_option linter.unusedVariables false
set_option linter.unusedSimpArgs false
namespace Go.Proofs.YtmhnnmfcjdnlhaaGreatDoor
def Fb:List (Nat×AV)→Nat→AV
 |[],_=> .E9
 |(j,v)::r,i=>bif Nat.beq j i then v else Fb r i
def jZ:List (Nat×AV)→Nat→AV→List (Nat×AV)
 |[],i,v=>[(i,v)]
 |(j,u)::r,i,v=>bif Nat.beq j i then (i,v)::r else (j,u)::jZ r i v
def Am:List (Nat×Option B5)→Nat→Option B5
 |[],_=>none
 |(j,v)::r,i=>bif Nat.beq j i then v else Am r i
def oJ:List (Nat×Option B5)→Nat→Option B5→List (Nat×Option B5)
 |[],i,v=>[(i,v)]
 |(j,u)::r,i,v=>bif Nat.beq j i then (i,v)::r else (j,u)::oJ r i v
def Tc (m:List (Nat×Option B5)):List (Nat×Option B5)→List (Nat×Option B5)
 |[]=>m
 |(i,v)::r=>Tc (oJ m i v) r
def Q6:Value→Option AV
 |.slice none 0 0=>some .B1
 |.pointer none=>some .Ki
 |.nilIface=>some (.oN true)
 |v=>bif Of v then some (.sc v) else none
def Kw:List Value→Option (List AV)
 |[]=>some []
 |v::vs=>match Q6 v,Kw vs with|some x,some xs=>some (x::xs)|_,_=>none
def Hc:Value→Option AV
 |.agg cs=>(Kw cs.toList).map .agg
 |.tuple cs=>(Kw cs.toList).map .B4
 |v=>Q6 v
def Ml:AV→Option Value
 |.sc v=>some v
 |.Ki=>some (.pointer none)
 |.B1=>some (.slice none 0 0)
 |_=>none
def Iz:List AV→Option (List Value)
 |[]=>some []
 |v::vs=>match Ml v,Iz vs with|some x,some xs=>some (x::xs)|_,_=>none
def Lu:AV→Option Value
 |.agg cs=>(Iz cs).map (fun l=> .agg l.toArray)
 |.B4 cs=>(Iz cs).map (fun l=> .tuple l.toArray)
 |x=>Ml x
def Cq:AV→Bool
 |.E9|.agg _|.B4 _=>false
 |_=>true
def Dl:AV→Option (List AV)
 |.E9|.B4 _=>none
 |.agg cs=>some cs
 |x=>some [x]
def Cd (P:Program) {α:Type}:Sem α→Option α
 |.pure a=>some a
 |.program k=>Cd P (k P)
 |_=>none
def D5 (P:Program) (t:TypeId):Option Nat:=(P.info? t).map (·.size)
def Jv (P:Program) (t:TypeId):Option Nat:=(P.info? t).map (·.bytes)
def Gy (P:Program) (t:TypeId):Option Value:=(P.info? t).bind (·.zero)
def Hz:TypeDesc→Bool
 |.struct _|.array _ _=>true
 |_=>false
def apart (P:Program) (t:TypeId) (cs:List AV) (off:Nat):Option AV:=
 match P.underlying t with
 |none=>none
 |some d=>
  bif Hz d then
   match D5 P t with
   |none=>none
   |some n=>bif Nat.ble (off+n) cs.length then some (.agg ((cs.drop off).take n)) else none
  else cs[off]?
def Eg (cells:List AV) (off:Nat) (new:List AV):List AV:=cells.take off++new++cells.drop (off+new.length)
def elemAt (esz:Nat) (cs:List AV) (i:Nat):List AV:=(cs.drop (i*esz)).take esz
abbrev Wr:=List (Nat×Option B5)
abbrev Ie:=Option (AV×Wr)
def Fq (P:Program) (look:Nat→Option B5) (t:TypeId):AV→Ie
 |.ptr id off=>match look id with|some b=>(apart P t b.cells off).map (·,[])|none=>none
 |.Dn cs off=>(apart P t cs off).map (·,[])
 |_=>none
def Rw (P:Program) (look:Nat→Option B5) (t:TypeId) (a x:AV):Ie:=
 match a,Dl x,D5 P t with
 |.ptr id off,some cs,some sz=>
  match look id with
  |some b=>bif Nat.beq cs.length sz && Nat.ble (off+cs.length) b.cells.length && cs.all Cq then some (.E9,[(id,some ⟨Eg b.cells off cs,b.ty⟩)]) else none
  |none=>none
 |_,_,_=>none
def aO (P:Program) (t:TypeId) (fi:Nat):AV→Ie
 |.ptr id off=>match P.underlying t with
  |some (.struct fs)=>match fs[fi]? with
   |some fd=>match D5 P fd.type with
    |some (k+1)=>some (.ptr id (off+fd.offset),[])
    |_=>none
   |none=>none
  |_=>none
 |.Dn cs off=>match P.underlying t with
  |some (.struct fs)=>match fs[fi]? with
   |some fd=>match D5 P fd.type with
    |some (k+1)=>some (.Dn cs (off+fd.offset),[])
    |_=>none
   |none=>none
  |_=>none
 |_=>none
def Nf (P:Program) (t:TypeId) (x i:AV):Ie:=
 match i with
 |.sc (.int _ z)=>
  match P.underlying t with
  |some (.slice e)=>match D5 P e with
   |some sz=>match x with
    |.sl id off esz n cap ex=>bif decide (0≤z) && decide (z<(n:Int)) then some (.ptr id (off+z.toNat*sz),[]) else none
    |.Ek n cs ex=>bif decide (0≤z) && decide (z<(n:Int)) then some (.Dn (elemAt sz cs z.toNat) 0,[]) else none
    |_=>none
   |none=>none
  |some (.array len e)=>match D5 P e with
   |some sz=>match x with
    |.ptr id off=>bif decide (0≤z) && decide (z<(len:Int)) then some (.ptr id (off+z.toNat*sz),[]) else none
    |.Dn cs off=>bif decide (0≤z) && decide (z<(len:Int)) then some (.Dn cs (off+z.toNat*sz),[]) else none
    |_=>none
   |none=>none
  |_=>none
 |_=>none
def V9 (P:Program) (t:TypeId) (fi:Nat):AV→Ie
 |.agg cs=>match P.underlying t with
  |some (.struct fs)=>match fs[fi]? with
   |some fd=>(apart P fd.type cs fd.offset).map (·,[])
   |none=>none
  |_=>none
 |_=>none
def Ql (P:Program) (t:TypeId) (x i:AV):Ie:=
 match x,i with
 |.agg cs,.sc (.int _ z)=>match P.underlying t with
  |some (.array len e)=>match D5 P e with
   |some sz=>bif decide (0≤z) && decide (z<(len:Int)) then (apart P e cs (z.toNat*sz)).map (·,[]) else none
   |none=>none
  |_=>none
 |_,_=>none
def Jm (place:Nat→Option (Nat×Nat)) (cells:List AV):List (Nat×AV)→Option (List AV)
 |[]=>some cells
 |(i,v)::rest=>
  match place i,Dl v with
  |some (off,size),some cs=>bif Nat.beq cs.length size && Nat.ble (off+size) cells.length then Jm place (Eg cells off cs) rest else none
  |_,_=>none
def Hp (ρ:Operand→Option AV):List (Nat×Operand)→Option (List (Nat×AV))
 |[]=>some []
 |(i,x)::r=>match ρ x,Hp ρ r with|some v,some l=>some ((i,v)::l)|_,_=>none
def opts (ρ:Operand→Option AV):List Operand→Option (List AV)
 |[]=>some []
 |x::r=>match ρ x,opts ρ r with|some v,some l=>some (v::l)|_,_=>none
def placesOf (P:Program):List Field→Option (List (Nat×Nat))
 |[]=>some []
 |f::r=>match D5 P f.type,placesOf P r with|some n,some l=>some ((f.offset,n)::l)|_,_=>none
def Zq (P:Program) (t:TypeId) (parts:List (Nat×AV)):Ie:=
 match (Gy P t).bind Hc with
 |some (.agg zs)=>match P.underlying t with
  |some (.struct fs)=>match placesOf P fs.toList with
   |some pl=>(Jm (fun i=>pl[i]?) zs parts).map (fun cs=>(.agg cs,[]))
   |none=>none
  |some (.array _ e)=>match D5 P e with
   |some sz=>(Jm (fun i=>some (i*sz,sz)) zs parts).map (fun cs=>(.agg cs,[]))
   |none=>none
  |_=>none
 |_=>none
def rep {α:Type} (zs:List α):Nat→List α
 |0=>[]
 |n+1=>zs++rep zs n
def aC:Value→Option (List AV)
 |.nilFunc=>some [.E9]
 |z=>(Hc z).bind Dl
def Ll (P:Program) (n:Nat) (t:TypeId) (len:Nat) (parts:List (Nat×AV)):Ie:=
 match P.underlying t with
 |some (.slice e)=>match D5 P e,(Gy P e).bind aC with
  |some sz,some zs=>bif Nat.ble (len*sz) 16777216 && Nat.beq zs.length sz && Nat.ble 1 sz then
    match Jm (fun i=>some (i*sz,sz)) (rep zs len) parts with
    |some cs=>some (.sl n 0 sz len len true,[(n,some ⟨cs,e⟩)])
    |none=>none
   else none
  |_,_=>none
 |_=>none
def M3 (P:Program) (n:Nat) (t:TypeId) (l c:AV):Ie:=
 match l,c with
 |.sc (.int .i64 x),.sc (.int .i64 y)=>match P.underlying t with
  |some (.slice e)=>match D5 P e,Jv P e,(Gy P e).bind (fun z=>(Hc z).bind Dl) with
   |some sz,some by_,some zs=>bif decide (0≤x) && decide (x≤y) && decide (y*(by_:Int)≤140737488355328) && decide (y≤4611686018427387904) && Nat.beq zs.length sz && Nat.ble 1 sz then
     some (.sl n 0 sz x.toNat y.toNat true,[(n,some ⟨rep zs y.toNat,e⟩)])
    else none
   |_,_,_=>none
  |_=>none
 |_,_=>none
def cellsOf (look:Nat→Option B5) (sz:Nat):AV→Option (Nat×List AV)
 |.B1=>some (0,[])
 |.Ek n cs _=>bif Nat.beq cs.length (n*sz) then some (n,cs) else none
 |.sl id off esz n _ _=>match look id with
  |some b=>bif Nat.ble (off+n*sz) b.cells.length && Nat.beq esz sz then some (n,(b.cells.drop off).take (n*sz)) else none
  |none=>none
 |_=>none
def K8 (P:Program) (look:Nat→Option B5) (n:Nat) (e:TypeId) (s x:AV):Ie:=
 match x with
 |.sc (.int _ z)=>match D5 P e,Jv P e,(Gy P e).bind (fun z=>(Hc z).bind Dl) with
  |some sz,some by_,some zs=>match s with
   |.B1=>
    bif decide (0<z) && Nat.ble (z.toNat*by_) 281474976710656 && Nat.ble z.toNat 4611686018427387904 && Nat.beq zs.length sz && Nat.ble 1 sz then
     some (.sl n 0 sz z.toNat z.toNat false,[(n,some ⟨rep zs z.toNat,e⟩)])
    else none
   |.sl id off esz q cap true=>match cellsOf look sz (.sl id off esz q cap true) with
    |some (k,old)=>
     bif decide (0<z) && Nat.ble (cap+1) (k+z.toNat) && Nat.ble ((k+z.toNat)*by_) 140737488355328 && Nat.ble (k+z.toNat) 4611686018427387904 && Nat.beq zs.length sz && Nat.ble 1 sz then
      some (.sl n 0 sz (k+z.toNat) (k+z.toNat) false,[(n,some ⟨old++rep zs z.toNat,e⟩)])
     else none
    |none=>none
   |_=>none
  |_,_,_=>none
 |_=>none
def Yx (s:AV) (q:Nat):Bool:=match s with|.sl _ _ _ _ cap _=>Nat.ble q cap|_=>false
def Jk (P:Program) (look:Nat→Option B5) (n:Nat) (t tx:TypeId) (s x:AV):Ie:=
 match P.underlying t,P.underlying tx with
 |some (.slice e),some (.slice _)=>match D5 P e,Jv P e,(Gy P e).bind (fun z=>(Hc z).bind Dl) with
  |some sz,some by_,some zs=>match cellsOf look sz x with
   |some (m,xs)=>
    bif Nat.beq m 0 then
     match s with
     |.B1|.Ek ..|.sl ..=>some (s,[])
     |_=>none
    else
    match cellsOf look sz s with
    |some (k,old)=>
     bif (Nat.ble ((k+m)*by_) 140737488355328||Yx s (k+m)) && Nat.ble (k+m) 4611686018427387904 && Nat.beq zs.length sz && Nat.ble 1 sz && xs.all Cq && Nat.beq xs.length (m*sz) && Nat.beq old.length (k*sz) then
      match s with
      |.B1=>some (.sl n 0 sz (k+m) (k+m) false,[(n,some ⟨old++xs,e⟩)])
      |.Ek _ _ true=>some (.sl n 0 sz (k+m) (k+m) false,[(n,some ⟨old++xs,e⟩)])
      |.sl id off esz _ cap ex=>
       bif Nat.ble (k+m) cap then
        match look id with
        |some b=>bif Nat.ble (off+(k+m)*sz) b.cells.length then some (.sl id off sz (k+m) cap ex,[(id,some ⟨Eg b.cells (off+k*sz) xs,b.ty⟩)]) else none
        |none=>none
       else bif ex then some (.sl n 0 sz (k+m) (k+m) false,[(n,some ⟨old++xs,e⟩)])
       else bif Nat.beq off 0 && (match look id with|some b=>Nat.beq b.ty e|none=>false) then some (.sl n 0 sz (k+m) (k+m) false,[(n,some ⟨old++xs,e⟩),(id,none)])
       else none
      |_=>none
     else none
    |none=>none
   |none=>none
  |_,_,_=>none
 |some (.slice e),some (.int _)=>K8 P look n e s x
 |_,_=>none
def yR (P:Program) (t:TypeId) (x:AV):Ie:=
 match P.underlying t,x with
 |some (.slice _),.B1=>some (.sc (.int .i64 0),[])
 |some (.slice _),.Ek n _ _=>some (.sc (.int .i64 n),[])
 |some (.slice _),.sl _ _ _ n _ _=>some (.sc (.int .i64 n),[])
 |some .string,.sc (.string s)=>some (.sc (.int .i64 s.size),[])
 |some (.array n _),_=>some (.sc (.int .i64 n),[])
 |_,_=>none
def jA (P:Program) (t:TypeId) (x:AV):Ie:=
 match P.underlying t,x with
 |some (.slice _),.sl _ _ _ _ cap true=>some (.sc (.int .i64 cap),[])
 |some (.slice _),.B1=>some (.sc (.int .i64 0),[])
 |_,_=>none
def Lz (dflt:Nat):Option AV→Option Nat
 |none=>some dflt
 |some (.sc (.int _ z))=>bif decide (0≤z) then some z.toNat else none
 |_=>none
def Rp (P:Program) (look:Nat→Option B5) (t:TypeId) (x:AV) (lo hi mx:Option AV):Ie:=
 match P.underlying t with
 |some (.slice e)=>match D5 P e with
  |some sz=>match x with
   |.B1=>match Lz 0 lo,Lz 0 hi,Lz 0 mx with
    |some 0,some 0,some 0=>bif mx.isSome && hi.isNone then none else some (.B1,[])
    |_,_,_=>none
   |.Ek n cs ex=>match Lz 0 lo,Lz n hi,Lz n mx with
    |some l,some h,some m=>bif Nat.ble l h && Nat.ble h m && Nat.ble m n && Nat.beq cs.length (n*sz) && !(mx.isSome && hi.isNone) then
      some (.Ek (h-l) ((cs.drop (l*sz)).take ((h-l)*sz)) (mx.isSome && Nat.beq h m),[]) else none
    |_,_,_=>none
   |.sl id off esz n cap ex=>match Lz 0 lo,Lz n hi,Lz cap mx with
    |some l,some h,some m=>bif Nat.ble l h && Nat.ble h m && Nat.ble m cap && Nat.beq esz sz && !(mx.isSome && hi.isNone) then
      bif Nat.beq l m then some (.Ek 0 [] (ex||mx.isSome),[]) else some (.sl id (off+l*sz) sz (h-l) (m-l) (ex||mx.isSome),[])
     else none
    |_,_,_=>none
   |_=>none
  |none=>none
 |some (.array len e)=>match D5 P e with
  |some sz=>match x with
   |.ptr id off=>match look id,Lz 0 lo,Lz len hi,Lz len mx with
    |some b,some l,some h,some m=>bif Nat.ble l h && Nat.ble h m && Nat.ble m len && Nat.ble (off+len*sz) b.cells.length && Nat.ble len 4611686018427387904 && !(mx.isSome && hi.isNone) then
      bif Nat.beq l m then some (.Ek 0 [] true,[]) else some (.sl id (off+l*sz) sz (h-l) (m-l) true,[])
     else none
    |_,_,_,_=>none
   |.Dn cs off=>match Lz 0 lo,Lz len hi,Lz len mx with
    |some l,some h,some m=>bif Nat.ble l h && Nat.ble h m && Nat.ble m len && Nat.ble (off+len*sz) cs.length && Nat.ble len 4611686018427387904 && !(mx.isSome && hi.isNone) then
      bif Nat.beq l m then some (.Ek 0 [] true,[]) else some (.Ek (h-l) ((cs.drop (off+l*sz)).take ((h-l)*sz)) (Nat.beq h m),[])
     else none
    |_,_,_=>none
   |_=>none
  |none=>none
 |_=>none
def Ym (P:Program) (look:Nat→Option B5) (t tx:TypeId) (d s:AV):Ie:=
 match P.underlying t with
 |some (.slice e)=>match D5 P e with
  |some sz=>match cellsOf look sz s with
   |some (m,xs)=>match d with
    |.sl id off esz n cap ex=>match look id with
     |some b=>bif Nat.ble (off+n*sz) b.cells.length && (xs.take (Nat.min m n*sz)).all Cq && Nat.beq esz sz then
       some (.sc (.int .i64 ((Nat.min m n:Nat):Int)),[(id,some ⟨Eg b.cells off (xs.take (Nat.min m n*sz)),b.ty⟩)]) else none
     |none=>none
    |_=>none
   |none=>none
  |none=>none
 |_=>none
def aR (P:Program) (look:Nat→Option B5) (t:TypeId) (d:AV):Ie:=
 match P.underlying t with
 |some (.slice e)=>match d with
  |.B1=>some (.B4 [],[])
  |.Ek 0 _ _=>some (.B4 [],[])
  |.sl id off esz 0 cap ex=>some (.B4 [],[])
  |.sl id off esz (n+1) cap ex=>match D5 P e,(Gy P e).bind (fun z=>(Hc z).bind Dl),look id with
   |some sz,some zs,some b=>bif Nat.ble (off+(n+1)*sz) b.cells.length && zs.all Cq && Nat.beq esz sz && Nat.beq zs.length sz && Nat.ble 1 sz then
     some (.B4 [],[(id,some ⟨Eg b.cells off (rep zs (n+1)),b.ty⟩)]) else none
   |_,_,_=>none
  |_=>none
 |_=>none
def Nq:AV→Option (Bool×Bool)
 |.B1=>some (true,true)
 |.Ki=>some (false,true)
 |.Ek _ (_::_) _|.sl ..=>some (true,false)
 |.ptr ..|.Dn ..=>some (false,false)
 |_=>none
def Ue (P:Program) (t:TypeId) (s s':Bool):Bool:=
 match P.underlying t with
 |some (.slice _)=>s && s'
 |some (.pointer _)=> !s && !s'
 |_=>false
def Mh (op:BinOp) (x y:Value):Option Value:=
 match x,y with
 |.int k a,.int k' b=>if k=k' then
   match op with
   |.add=>some (.int k (k.wrap (a+b)))
   |.sub=>some (.int k (k.wrap (a-b)))
   |.mul=>some (.int k (k.wrap (a*b)))
   |.quo=>bif decide (b=0) then none else some (.int k (k.wrap (a.tdiv b)))
   |.rem=>bif decide (b=0) then none else some (.int k (a.tmod b))
   |.eql=>some (.bool (a==b))
   |.neq=>some (.bool (a !=b))
   |.lss=>some (.bool (decide (a<b)))
   |.leq=>some (.bool (decide (a≤b)))
   |.gtr=>some (.bool (decide (a>b)))
   |.geq=>some (.bool (decide (a≥b)))
   |_=>none
  else none
 |.string a,.string b=>
  match op with
  |.eql=>some (.bool (a.toList==b.toList))
  |.neq=>some (.bool (!(a.toList==b.toList)))
  |.lss=>some (.bool (Op.bytesLess a.toList b.toList))
  |.leq=>some (.bool (Op.bytesLess a.toList b.toList||a.toList==b.toList))
  |.gtr=>some (.bool (!(Op.bytesLess a.toList b.toList||a.toList==b.toList)))
  |.geq=>some (.bool (!(Op.bytesLess a.toList b.toList)))
  |_=>none
 |_,_=>none
def J0 (ρ:Operand→Option AV) (x:Operand):Option Value:=(ρ x).bind Lu
def Rt (ρ:Operand→Option AV) (l:List Operand):Bool:=l.all fun x=>(J0 ρ x).isSome
def Lx:Op→Bool
 |.select ..=>false
 |_=>true
def Hm (P:Program) (ρ:Operand→Option AV) (o:Oper):Ie:=
 bif Lx o.op && Rt ρ o.op.operands.toList then
  match Cd P (execOp (fun x=>(J0 ρ x).getD undef) o) with
  |some (.value v)=>(Hc v).map (·,[])
  |_=>none
 else none
def qJ (P:Program) (ρ:Operand→Option AV) (o:Oper) (op:BinOp) (t:TypeId) (x y:Operand):Ie:=
 match ρ x,ρ y with
 |some (.sc a),some (.sc b)=>match Mh op a b with
  |some v=>some (.sc v,[])
  |none=>Hm P ρ o
 |some a,some b=>match op,Nq a,Nq b with
  |.eql,some (s,p),some (s',q)=>bif (p||q) && Ue P t s s' then some (.sc (.bool (p && q)),[]) else none
  |.neq,some (s,p),some (s',q)=>bif (p||q) && Ue P t s s' then some (.sc (.bool (!(p && q))),[]) else none
  |_,_,_=>Hm P ρ o
 |_,_=>none
def Ab3 (P:Program) (op:BinOp) (t:TypeId):AV→Ie
 |.oN p=>match P.underlying t,op with
  |some (.interface _),.eql=>some (.sc (.bool p),[])
  |some (.interface _),.neq=>some (.sc (.bool (!p)),[])
  |_,_=>none
 |_=>none
def byteCells (s:ByteArray):List AV:=s.data.toList.map fun b=> .sc (.int .u8 b.toNat)
def byteOf:AV→Option UInt8
 |.sc (.int .u8 z)=>bif decide (0≤z) && decide (z<256) then some (UInt8.ofNat z.toNat) else none
 |_=>none
def bytesOf:List AV→Option (List UInt8)
 |[]=>some []
 |x::xs=>match byteOf x,bytesOf xs with|some b,some l=>some (b::l)|_,_=>none
def P8 (P:Program) (ρ:Operand→Option AV) (look:Nat→Option B5) (o:Oper) (src dst:TypeId) (x:Operand):Ie:=
 match ρ x,P.underlying src,P.underlying dst with
 |some (.sc (.string s)),some .string,some (.slice e)=>match P.underlying e with
  |some (.int .u8)=>bif Nat.ble s.size 4611686018427387904 then some (.Ek s.size (byteCells s) false,[]) else none
  |_=>none
 |some y,some (.slice e),some .string=>match P.underlying e with
  |some (.int .u8)=>match cellsOf look 1 y with
   |some (n,cs)=>match bytesOf cs with
    |some l=>some (.sc (.string ⟨l.toArray⟩),[])
    |none=>none
   |none=>none
  |_=>none
 |_,_,_=>Hm P ρ o
def Nx (P:Program) (ρ:Operand→Option AV) (look:Nat→Option B5) (n:Nat) (o:Oper):Ie:=
 match o.op with
 |.move x|.assign x=>(ρ x).map (·,[])
 |.pick c a b=>match ρ c with
  |some (.sc (.bool t))=>(bif t then ρ a else ρ b).map (·,[])
  |_=>none
 |.alloc t=>match (Gy P t).bind (fun z=>(Hc z).bind Dl) with
  |some cs=>some (.ptr n 0,[(n,some ⟨cs,t⟩)])
  |none=>none
 |.box t x=>match (ρ x).bind Dl with
  |some cs=>some (.ptr n 0,[(n,some ⟨cs,t⟩)])
  |none=>none
 |.load t a=>(ρ a).bind (Fq P look t)
 |.store t a x=>match ρ a,ρ x with
  |some a,some x=>Rw P look t a x
  |_,_=>none
 |.fieldAddr t x fi=>(ρ x).bind (aO P t fi)
 |.indexAddr t x i=>match ρ x,ρ i with
  |some x,some i=>Nf P t x i
  |_,_=>none
 |.field t x fi=>(ρ x).bind (V9 P t fi)
 |.index t x i=>match ρ x,ρ i with
  |some (.agg cs),some i=>Ql P t (.agg cs) i
  |_,_=>Hm P ρ o
 |.extract x i=>match ρ x with
  |some (.B4 vs)=>(vs[i]?).map (·,[])
  |_=>none
 |.build t parts=>(Hp ρ parts.toList).bind (Zq P t)
 |.buildSlice t len parts=>(Hp ρ parts.toList).bind (Ll P n t len)
 |.makeSlice t l c=>match ρ l,ρ c with
  |some l,some c=>M3 P n t l c
  |_,_=>none
 |.slice t x lo hi mx=>match ρ x with
  |some (.sc _)=>Hm P ρ o
  |some x=>match lo.mapM ρ,hi.mapM ρ,mx.mapM ρ with
   |some lo,some hi,some mx=>Rp P look t x lo hi mx
   |_,_,_=>none
  |none=>none
 |.nilCheck x=>match ρ x with
  |some (.ptr id off)=>some (.ptr id off,[])
  |some (.Dn cs off)=>some (.Dn cs off,[])
  |some (.fn f cs)=>some (.fn f cs,[])
  |_=>none
 |.makeFunc (.func f) first caps=>match first.toList with
  |[]=>(opts ρ caps.toList).map (fun l=>(.fn f l,[]))
  |_=>none
 |.binOp op t x (.const .nilIface) _=>match ρ x,ρ (.const .nilIface) with
  |some y,some (.oN true)=>Ab3 P op t y
  |_,_=>none
 |.binOp op t x y _=>qJ P ρ o op t x y
 |.call {callee:=.builtin .append,args,argTypes}=>match args.toList,argTypes.toList with
  |[s,x],[t,tx]=>match ρ s,ρ x with
   |some s,some x=>Jk P look n t tx s x
   |_,_=>none
  |_,_=>none
 |.call {callee:=.builtin .len,args,argTypes}=>match args.toList,argTypes.toList with
  |[x],[t]=>(ρ x).bind (yR P t)
  |_,_=>none
 |.call {callee:=.builtin .cap,args,argTypes}=>match args.toList,argTypes.toList with
  |[x],[t]=>(ρ x).bind (jA P t)
  |_,_=>none
 |.call {callee:=.builtin .copy,args,argTypes}=>match args.toList,argTypes.toList with
  |[d,s],[t,tx]=>match ρ d,ρ s with
   |some d,some s=>Ym P look t tx d s
   |_,_=>none
  |_,_=>none
 |.call {callee:=.builtin .clear,args,argTypes}=>match args.toList,argTypes.toList with
  |[d],[t]=>(ρ d).bind (aR P look t)
  |_,_=>none
 |.call {callee:=.builtin .max,..}=>Hm P ρ o
 |.call {callee:=.builtin .min,..}=>Hm P ρ o
 |.unOp ..=>Hm P ρ o
 |.convert src dst x=>P8 P ρ look o src dst x
 |_=>none
def Bv:AV→List Nat
 |.ptr id _=>[id]
 |.sl id ..=>[id]
 |_=>[]
def n9 (ρ:Operand→Option AV) (o:Oper):List Nat:=o.op.operands.toList.flatMap fun x=>match ρ x with|some v=>Bv v|none=>[]
end Go.Proofs.YtmhnnmfcjdnlhaaGreatDoor
set_option linter.unusedVariables false
set_option linter.unusedSimpArgs false
namespace Go.Proofs.YtmhnnmfcjdnlhaaGreatDoor
mutual
def clean:AV→Bool
 |.E9=>true
 |.sc _=>true
 |.agg cs=>Av cs
 |.B4 cs=>Av cs
 |.Ki=>true
 |.ptr _ _=>false
 |.Dn cs _=>Av cs
 |.B1=>true
 |.Ek _ cs _=>Av cs
 |.sl _ _ _ _ _ _=>false
 |.fn _ cs=>Av cs
 |.oN _=>true
def Av:List AV→Bool
 |[]=>true
 |x::xs=>clean x && Av xs
end
structure St where
 e:List (Nat×AV)
 m:List (Nat×Option B5)
 nx:Nat
structure Jz where
 pm:FuncId→Bool
 gl:Nat→Option (List AV)
def Ir (gl:Nat→Option (List AV)) (e:List (Nat×AV)):Operand→Option AV
 |.tmp t=>some (Fb e t)
 |.const v=>Hc v
 |.func f=>some (.fn f [])
 |.global g=>(gl g).map fun cs=> .Dn cs 0
def Ia (ops:Array Oper) (e:List (Nat×AV)) (o:Oper):Option Bool:=
 match o.guard with
 |none=>some true
 |some (j,want)=>match (ops[j]?).bind (·.dst) with
  |some d=>match Fb e d with
   |.sc (.bool b)=>some (b==want)
   |.B4 _=>some false
   |_=>none
  |none=>none
abbrev Fy:=FuncId→List AV→List (Nat×Option B5)→Nat→Option (AV×List (Nat×Option B5)×Nat)
def Iy (f:AV→Option AV):List AV→Option (List AV)
 |[]=>some []
 |x::xs=>match f x,Iy f xs with|some y,some ys=>some (y::ys)|_,_=>none
def freeze (look:Nat→Option B5):Nat→AV→Option AV
 |0,_=>none
 |k+1,.sl id off esz n cap ex=>match look id with
  |some b=>bif Nat.ble (off+n*esz) b.cells.length then (Iy (freeze look k) ((b.cells.drop off).take (n*esz))).map (fun l=> .Ek n l false) else none
  |none=>none
 |k+1,.agg cs=>(Iy (freeze look k) cs).map .agg
 |k+1,.B4 cs=>(Iy (freeze look k) cs).map .B4
 |k+1,x=>bif clean x then some x else none
def snap (look:Nat→Option B5):Nat→AV→Option AV
 |0,_=>none
 |k+1,.sl id off esz n cap ex=>match look id with
  |some b=>bif Nat.ble (off+n*esz) b.cells.length then (Iy (snap look k) ((b.cells.drop off).take (n*esz))).map (fun l=> .Ek n l false) else none
  |none=>none
 |k+1,.ptr id off=>match look id with
  |some b=>(Iy (snap look k) b.cells).map (fun l=> .Dn l off)
  |none=>none
 |k+1,.agg cs=>(Iy (snap look k) cs).map .agg
 |k+1,.B4 cs=>(Iy (snap look k) cs).map .B4
 |k+1,.fn f cs=>(Iy (snap look k) cs).map (.fn f)
 |k+1,x=>bif clean x then some x else none
def reach (look:Nat→Option B5):Nat→AV→List Nat
 |0,_=>[]
 |k+1,.ptr id _=>id::(match look id with|some b=>b.cells.flatMap (reach look k)|none=>[])
 |k+1,.sl id _ _ _ _ _=>id::(match look id with|some b=>b.cells.flatMap (reach look k)|none=>[])
 |k+1,.agg cs=>cs.flatMap (reach look k)
 |k+1,.B4 cs=>cs.flatMap (reach look k)
 |k+1,.fn _ cs=>cs.flatMap (reach look k)
 |_+1,_=>[]
def Ny:AV→Bool
 |.sc _=>true
 |_=>false
def k8:AV→Bool
 |.sc _=>true
 |.B1=>true
 |.Ek 0 [] _=>true
 |.agg cs=>cs.all Ny
 |_=>false
def Ha:AV→Bool
 |.sc _=>true
 |.agg cs=>cs.all Ny
 |.B4 cs=>cs.all k8
 |_=>false
def Gz (cf:Fy) (look:Nat→Option B5) (g:FuncId) (args:List AV):Ie:=
 bif Av args then
  match cf g args [] 0 with
  |some (v,m,_)=>match freeze (Am m) 6 v with
   |some v'=>bif clean v' then some (v',[]) else none
   |none=>none
  |none=>none
 else
  match Iy (snap look 6) args with
  |some ar=>match cf g ar [] 0 with
   |some (v,_,_)=>bif Ha v then some (v,[]) else none
   |none=>none
  |none=>none
def madeOf (n:Nat) (m:List (Nat×Option B5)):AV→Ie
 |.sl id off esz k cap ex=>match Am m id with
  |some b=>bif Av b.cells then some (.sl n off esz k cap ex,[(n,some b)]) else none
  |none=>none
 |_=>none
def Lg (cf:Fy) (look:Nat→Option B5) (n:Nat) (g:FuncId) (args:List AV):Ie:=
 bif Av args then
  match cf g args [] 0 with
  |some (v,m,_)=>madeOf n m v
  |none=>none
 else
  match Iy (snap look 6) args with
  |some ar=>match cf g ar [] 0 with
   |some (v,m,_)=>match madeOf n m v with
    |some (v',[(i,some b)])=>bif b.cells.all Ny then some (v',[(i,some b)]) else none
    |_=>none
   |none=>none
  |none=>none
def tS:List AV→Option (List Value)
 |[]=>some []
 |.sc v::r=>match tS r with
  |some l=>some (v::l)
  |none=>none
 |_=>none
def Qr:List (String×(Array Value→Sem Value)):=[("math.Float64bits",Extern.MathFloatBits.float64bits),("math.Float64frombits",Extern.MathFloatBits.float64frombits),("math.archFloor",Extern.MathFloor.toIntegral "math.archFloor" .down),("internal/bytealg.abigen_runtime_cmpstring",Extern.BytealgCompare.compare),("internal/bytealg.CountString",Extern.BytealgCount.count),("internal/bytealg.IndexByteString",Extern.BytealgIndexByte.indexByte)]
def Acg (P:Program) (f:FuncId) (args:List AV):Option AV:=match P.funcs[f]? with
 |some fn=>bif fn.body.isNone && fn.origin== "" then (match Qr.lookup fn.name,tS args with
  |some ex,some vals=>match Cd P (ex vals.toArray) with
   |some u=>bif Of u then some (.sc u) else none
   |none=>none
  |_,_=>none) else none
 |none=>none
def U6 (P:Program) (K:Jz) (cf:Fy) (dr:Bool) (e:List (Nat×AV)) (look:Nat→Option B5) (n:Nat) (o:Oper):Ie:=
 match o.op with
 |.call {callee:=.value g,args,..}=>match Ir K.gl e g,opts (Ir K.gl e) args.toList with
  |some (.fn g caps),some ar=>match Acg P g (ar++caps) with
   |some v=>some (v,[])
   |none=>bif dr then (match (bif K.pm g then none else Lg cf look n g (ar++caps)) with
    |some r=>some r
    |none=>Gz cf look g (ar++caps)) else bif K.pm g then Gz cf look g (ar++caps) else none
  |_,_=>none
 |_=>Nx P (Ir K.gl e) look n o
def Y9 (K:Jz) (cf:Fy) (s:St) (o:Oper):Option (AV×List (Nat×Option B5)×Nat):=
 match o.op with
 |.call {callee:=.value g,args,..}=>match Ir K.gl s.e g,opts (Ir K.gl s.e) args.toList with
  |some (.fn g caps),some ar=>cf g (ar++caps) s.m s.nx
  |_,_=>none
 |_=>none
def Aeu (P:Program) (K:Jz) (cf:Fy) (s:St) (o:Oper):Option (AV×List (Nat×Option B5)×Nat):=
 match U6 P K cf false s.e (Am s.m) s.nx o with
 |some (v,d)=>some (v,Tc s.m d,s.nx+1)
 |none=>Y9 K cf s o
def Oj (nt:Nat) (e:List (Nat×AV)) (dst:Option Nat) (v:AV):Option (List (Nat×AV)):=
 match dst with
 |none=>some e
 |some d=>bif Nat.blt d nt then some (jZ e d v) else none
def T7 (P:Program) (K:Jz) (cf:Fy) (nt:Nat) (ops:Array Oper):List Oper→St→Option St
 |[],s=>some s
 |o::r,s=>match Ia ops s.e o with
  |some true=>match Aeu P K cf s o with
   |some (v,m,nx)=>match Oj nt s.e o.dst v with
    |some e=>T7 P K cf nt ops r ⟨e,m,nx⟩
    |none=>none
   |none=>none
  |some false=>match Oj nt s.e o.dst (.B4 []) with
   |some e=>T7 P K cf nt ops r ⟨e,s.m,s.nx⟩
   |none=>none
  |none=>none
def L3 (o:Oper) (acc:List Nat):Nat:=o.after.toList.foldl (fun s e=>bif Region.binds .any e then s|||2 ^ e.on|||acc.getD e.on 0 else s) 0
def Gh:List Oper→List Nat→List Nat
 |[],acc=>acc
 |o::r,acc=>Gh r (acc++[L3 o acc])
def Xd (ms:List Nat) (i j:Nat):Bool:=(ms.getD j 0).testBit i||(ms.getD i 0).testBit j
def tmpsOf (l:List Operand):List Nat:=l.filterMap fun|.tmp t=>some t|_=>none
def Md (ops:Array Oper) (o:Oper):List Nat:=tmpsOf o.op.operands.toList++o.dst.toList++(match o.guard with|some (j,_)=>((ops[j]?).bind (·.dst)).toList|none=>[])
def N2 (ops:Array Oper) (ms:List Nat) (l:List (Oper×Nat)) (o:Oper) (i:Nat):Bool:=
 (o.after.toList.all fun e=> !Region.binds .any e||Nat.blt e.on i) && Lx o.op &&
 match o.dst with
 |none=>true
 |some t=>l.all fun q=>Nat.beq i q.2|| !(Md ops q.1).contains t||Xd ms i q.2
def Vf (ops:Array Oper) (ms:List Nat):Bool:=ops.toList.zipIdx.all fun q=>N2 ops ms ops.toList.zipIdx q.1 q.2
structure Rec where
 d:Wr
 ft:List Nat
def Dw (m:List (Nat×Option B5)) (ft:List Nat) (id:Nat):Option B5:=bif ft.contains id then Am m id else none
def Ub (ρ:Operand→Option AV) (o:Oper):List Nat:=
 match o.op with
 |.load ..=>n9 ρ o
 |.store ..=>n9 ρ o
 |.slice ..=>n9 ρ o
 |.convert ..=>n9 ρ o
 |.call ..=>n9 ρ o
 |_=>[]
def iZ (K:Jz) (s:St) (o:Oper):List Nat:=
 match o.op with
 |.call {callee:=.value _,..}=>o.op.operands.toList.flatMap fun x=>match Ir K.gl s.e x with
  |some v=>reach (Am s.m) 6 v
  |none=>[]
 |_=>Ub (Ir K.gl s.e) o
def Ae3 (P:Program) (K:Jz) (cf:Fy) (s:St) (o:Oper):Ie:=U6 P K cf true s.e (Dw s.m (iZ K s o)) s.nx o
def Ni (P:Program) (K:Jz) (cf:Fy) (nt:Nat) (ops:Array Oper):List Oper→St→List Rec→Option (St×List Rec)
 |[],s,rs=>some (s,rs)
 |o::r,s,rs=>match Ia ops s.e o with
  |some true=>match Ae3 P K cf s o with
   |some (v,d)=>match Oj nt s.e o.dst v with
    |some e=>Ni P K cf nt ops r ⟨e,Tc s.m d,s.nx+1⟩ (rs++[⟨d,iZ K s o⟩])
    |none=>none
   |none=>none
  |some false=>match Oj nt s.e o.dst (.B4 []) with
   |some e=>Ni P K cf nt ops r ⟨e,s.m,s.nx+1⟩ (rs++[⟨[],[]⟩])
   |none=>none
  |none=>none
def nM (a b:Rec):Bool:=a.d.all fun p=> !b.ft.contains p.1 && b.d.all fun q=> !Nat.beq p.1 q.1
def F4 (ms:List Nat) (rs:List Rec):Bool:=
 let l:=rs.zipIdx
 l.all fun p=>p.1.d.isEmpty||l.all fun q=>Nat.beq p.2 q.2||Xd ms p.2 q.2||nM p.1 q.1
def I6 (P:Program) (K:Jz) (cf:Fy) (nt:Nat) (ops:Array Oper) (draw:Bool) (s:St):Option St:=
 bif draw then
  let ms:=Gh ops.toList []
  bif Vf ops ms then
   match Ni P K cf nt ops ops.toList s [] with
   |some (s',rs)=>bif F4 ms rs then some s' else none
   |none=>none
  else none
 else T7 P K cf nt ops ops.toList s
inductive Bh where
 |normal
 |exit (id:Nat)
 |ret
def iter (f:St→Option (Bh×St)):Nat→St→Option (Bh×St)
 |0,_=>none
 |k+1,s=>match f s with
  |some (.normal,s')=>iter f k s'
  |r=>r
def E6 (K:Jz) (rg:Array Oper→Bool→St→Option St) (k:Nat):Code→St→Option (Bh×St)
 |.skip,s=>some (.normal,s)
 |.region _ ops d,s=>(rg ops d s).map (fun s'=>(.normal,s'))
 |.seq a b,s=>match E6 K rg k a s with
  |some (.normal,s')=>E6 K rg k b s'
  |r=>r
 |.cond c a b,s=>match Ir K.gl s.e c with
  |some (.sc (.bool t))=>bif t then E6 K rg k a s else E6 K rg k b s
  |_=>none
 |.block id b,s=>match E6 K rg k b s with
  |some (.exit j,s')=>some (bif Nat.beq j id then .normal else .exit j,s')
  |r=>r
 |.loop b,s=>iter (E6 K rg k b) k s
 |.exit id,s=>some (.exit id,s)
 |.ret,s=>some (.ret,s)
 |.label _,s=>some (.normal,s)
 |_,_=>none
def N7 (P:Program) (s:St):ResultVar→Option AV
 |.tmp t=>some (Fb s.e t)
 |.cell a t=>(Fq P (Am s.m) t (Fb s.e a)).map (·.1)
def Hv (P:Program) (s:St):List ResultVar→Option (List AV)
 |[]=>some []
 |r::rs=>match N7 P s r,Hv P s rs with|some v,some l=>some (v::l)|_,_=>none
def Fk (P:Program) (fn:Func) (s:St):Option AV:=
 match Hv P s fn.results.toList with
 |some [v]=>some v
 |some l=>some (.B4 l)
 |none=>none
def Fa:List AV→Nat→List (Nat×AV)
 |[],_=>[]
 |a::r,i=>(i,a)::Fa r (i+1)
def Aeh (P:Program) (K:Jz):Nat→Fy
 |0,_,_,_,_=>none
 |k+1,f,args,m,nx=>match P.funcs[f]? with
  |some fn=>match fn.body with
   |some c=>bif fn.name== "runtime.NumGoroutine" ||Nat.blt fn.ntmps args.length then none else
     match E6 K (I6 P K (Aeh P K k) fn.ntmps) k c ⟨Fa args 0,m,nx⟩ with
     |some (.normal,s)=>(Fk P fn s).map (·,s.m,s.nx)
     |some (.ret,s)=>(Fk P fn s).map (·,s.m,s.nx)
     |_=>none
   |none=>none
  |none=>none
end Go.Proofs.YtmhnnmfcjdnlhaaGreatDoor
set_option linter.unusedVariables false
set_option linter.unusedSimpArgs false
namespace Go.Proofs.YtmhnnmfcjdnlhaaGreatDoor
open Go.RowKit
theorem Good.lt {B:Nat} {c:Cx} (g:Good B c) {id:Nat} {Cr:B5} (h:c.M id=some Cr):c.f id<c.w.heap.size:=by
 obtain ⟨arr,vs,rest,hb,-⟩:=g.Cr id Cr h
 exact Hl hb
def Cx.tick (c:Cx) (n:Nat):Cx:={c with al:=fun id=>c.al id∨id=n}
theorem Hx (c:Cx) (n:Nat):Step c (c.tick n):=⟨rfl,rfl,rfl,Nat.le_refl _,fun _ _ _=>rfl,fun _ _ h=>h,fun _ _=>rfl,fun _ h=> .inl h,fun _=>Iff.rfl,fun b arr T h=>⟨arr,h,rfl⟩,Nat.le_refl _⟩
theorem Mo {B:Nat} {c:Cx} (g:Good B c) (n:Nat):Good B (c.tick n):=
 ⟨g.hB,fun id Cr h=>⟨(g.low id Cr h).1,.inl (g.low id Cr h).2⟩,fun id Cr h=>by
  obtain ⟨arr,vs,rest,h1,h2,h3⟩:=g.Cr id Cr h
  exact ⟨arr,vs,rest,h1,h2,h3.step (Hx c n)⟩,g.K6,g.inj⟩
def Cx.new (c:Cx) (n:Nat) (arr:Array Value) (T:TypeId) (cells:List AV):Cx:=
 {w:=c.w.alloc (.cells arr T),f:=fun id=>if id=n then c.w.heap.size else c.f id,al:=fun id=>c.al id∨id=n,M:=fun id=>if id=n then some ⟨cells,T⟩ else c.M id,no:=c.no}
theorem La {B:Nat} {c:Cx} (g:Good B c) {n:Nat} (hn:¬c.al n) (arr:Array Value) (T:TypeId) (cells:List AV):Step c (c.new n arr T cells):=by
 refine ⟨rfl,rfl,rfl,by simp [Cx.new],fun b hb _=>Below.heap_alloc _ _ b hb,fun b hb ho=> ?_,fun id hi=> ?_,fun _ h=> .inl h,fun _=>Iff.rfl,fun b a' T' h=>⟨a',?_,rfl⟩,Nat.le_refl _⟩
 ·obtain ⟨id,Cr,hM,hf⟩:=ho
  by_cases h:id=n
  ·simp only [Cx.new,h,if_true] at hf;omega
  ·simp only [Cx.new,h,if_false] at hM hf;exact ⟨id,Cr,hM,hf⟩
 ·have:id≠n:=fun h=>hn (h ▸ hi)
  simp [Cx.new,this]
 ·show (c.w.alloc (.cells arr T)).heap[b]?=_
  rw [Below.heap_alloc _ _ b (Hl h)];exact h
theorem Q4 (w:World) (o:Obj):(w.alloc o).heap[w.heap.size]?=some o:=by show (w.heap.push o)[w.heap.size]?=some o;simp
theorem Oi {B:Nat} {c:Cx} (g:Good B c) {n:Nat} (hn:¬c.al n) {arr:Array Value} {T:TypeId} {cells:List AV} {vs rest:List Value} (h1:arr.toList=vs++rest) (h2:Cf c cells vs):Good B (c.new n arr T cells):=by
 have st:=La g hn arr T cells
 have hB:=g.hB
 refine ⟨by simp [Cx.new];omega,fun id Cr h=> ?_,fun id Cr h=> ?_,g.K6,fun id id' Cr blk' h h' hf=> ?_⟩
 ·by_cases hi:id=n
  ·subst hi;simp [Cx.new];exact hB
  ·simp only [Cx.new,hi,if_false] at h ⊢;exact ⟨(g.low id Cr h).1,.inl (g.low id Cr h).2⟩
 ·by_cases hi:id=n
  ·subst hi
   simp only [Cx.new,if_true,Option.some.injEq] at h
   subst h
   exact ⟨arr,vs,rest,by simp only [Cx.new,if_true];exact Q4 _ _,h1,h2.step st⟩
  ·have hM:c.M id=some Cr:=by simpa [Cx.new,hi] using h
   obtain ⟨a',v',r',k1,k2,k3⟩:=g.Cr id Cr hM
   refine ⟨a',v',r',?_,k2,k3.step st⟩
   simp only [Cx.new,hi,if_false]
   rw [Below.heap_alloc _ _ _ (Hl k1)];exact k1
 ·by_cases hi:id=n<;>by_cases hi':id'=n
  ·rw [hi,hi']
  ·exfalso
   have hM:c.M id'=some blk':=by simpa [Cx.new,hi'] using h'
   have:=g.lt hM
   simp only [Cx.new,hi,hi',if_true,if_false] at hf;omega
  ·exfalso
   have hM:c.M id=some Cr:=by simpa [Cx.new,hi] using h
   have:=g.lt hM
   simp only [Cx.new,hi,hi',if_true,if_false] at hf;omega
  ·simp only [Cx.new,hi,hi',if_false] at h h' hf;exact g.inj id id' Cr blk' h h' hf
def Cx.put (c:Cx) (n id:Nat) (arr:Array Value) (T:TypeId) (cells:List AV):Cx:=
 {w:=c.w.setRow (c.f id) arr,f:=c.f,al:=fun k=>c.al k∨k=n,M:=fun k=>if k=id then some ⟨cells,T⟩ else c.M k,no:=c.no}
theorem Re {B:Nat} {c:Cx} (g:Good B c) {n id:Nat} {Cr:B5} (hM:c.M id=some Cr) {old arr:Array Value} (ho:c.w.heap[c.f id]?=some (.cells old Cr.ty)) (hs:arr.size=old.size) (T:TypeId) (cells:List AV):Step c (c.put n id arr T cells):=by
 refine ⟨rfl,rfl,rfl,by simp [Cx.put],fun b hb hn=> ?_,fun b hb ho=> ?_,fun _ _=>rfl,fun _ h=> .inl h,fun _=>Iff.rfl,fun b a' T' h=> ?_,Nat.le_refl _⟩
 ·show (c.w.setRow (c.f id) arr).heap[b]?=_
  exact setRow_other _ _ _ _ (fun h=>hn ⟨id,Cr,hM,h.symm⟩)
 ·obtain ⟨k,bk,hk,hf⟩:=ho
  by_cases h:k=id
  ·exact ⟨id,Cr,hM,h ▸ hf⟩
  ·simp only [Cx.put,h,if_false] at hk;exact ⟨k,bk,hk,hf⟩
 ·by_cases hb:b=c.f id
  ·subst hb
   rw [ho] at h
   simp only [Option.some.injEq,Obj.cells.injEq,and_true] at h
   obtain ⟨rfl,rfl⟩:=h
   exact ⟨arr,setRow_heap _ _ _ _ _ _ ho,hs⟩
  ·exact ⟨a',by show (c.w.setRow (c.f id) arr).heap[b]?=_;rw [setRow_other _ _ _ _ hb];exact h,rfl⟩
theorem Yd {B:Nat} {c:Cx} (g:Good B c) {n id:Nat} {Cr:B5} (hM:c.M id=some Cr) {old arr:Array Value} (ho:c.w.heap[c.f id]?=some (.cells old Cr.ty)) (hs:arr.size=old.size) {cells:List AV} {vs rest:List Value} (h1:arr.toList=vs++rest) (h2:Cf c cells vs):Good B (c.put n id arr Cr.ty cells):=by
 have st:=Re (n:=n) g hM ho hs Cr.ty cells
 refine ⟨by simpa [Cx.put] using g.hB,fun k bk h=> ?_,fun k bk h=> ?_,g.K6,fun k k' bk bk' h h' hf=> ?_⟩
 ·by_cases hk:k=id
  ·subst hk;exact ⟨(g.low k Cr hM).1,.inl (g.low k Cr hM).2⟩
  ·simp only [Cx.put,hk,if_false] at h;exact ⟨(g.low k bk h).1,.inl (g.low k bk h).2⟩
 ·by_cases hk:k=id
  ·subst hk
   simp only [Cx.put,if_true,Option.some.injEq] at h
   subst h
   exact ⟨arr,vs,rest,setRow_heap _ _ _ _ _ _ ho,h1,h2.step st⟩
  ·have hM':c.M k=some bk:=by simpa [Cx.put,hk] using h
   obtain ⟨a',v',r',k1,k2,k3⟩:=g.Cr k bk hM'
   refine ⟨a',v',r',?_,k2,k3.step st⟩
   show (c.w.setRow (c.f id) arr).heap[c.f k]?=_
   rw [setRow_other _ _ _ _ (fun he=>hk (g.inj k id bk Cr hM' hM he))];exact k1
 ·have e1:∃b1,c.M k=some b1:=by
   by_cases hk:k=id
   ·exact ⟨Cr,hk ▸ hM⟩
   ·exact ⟨bk,by simpa [Cx.put,hk] using h⟩
  have e2:∃b1,c.M k'=some b1:=by
   by_cases hk:k'=id
   ·exact ⟨Cr,hk ▸ hM⟩
   ·exact ⟨bk',by simpa [Cx.put,hk] using h'⟩
  obtain ⟨b1,e1⟩:=e1
  obtain ⟨b2,e2⟩:=e2
  exact g.inj k k' b1 b2 e1 e2 hf
def Cx.drop (c:Cx) (id:Nat):Cx:={c with M:=fun k=>if k=id then none else c.M k}
theorem Kj (c:Cx) (id:Nat):Step c (c.drop id):=by
 refine ⟨rfl,rfl,rfl,Nat.le_refl _,fun _ _ _=>rfl,fun b _ ho=> ?_,fun _ _=>rfl,fun _ h=>h,fun _=>Iff.rfl,fun b arr T h=>⟨arr,h,rfl⟩,Nat.le_refl _⟩
 obtain ⟨k,bk,hk,hf⟩:=ho
 by_cases h:k=id
 ·simp [Cx.drop,h] at hk
 ·simp only [Cx.drop,h,if_false] at hk;exact ⟨k,bk,hk,hf⟩
theorem Vs {c:Cx} {id k:Nat} {bk:B5} (h:(c.drop id).M k=some bk):c.M k=some bk:=by
 by_cases hk:k=id
 ·simp [Cx.drop,hk] at h
 ·simpa [Cx.drop,hk] using h
theorem Tw {B:Nat} {c:Cx} (g:Good B c) (id:Nat):Good B (c.drop id):=
 ⟨g.hB,fun k bk h=>g.low k bk (Vs h),fun k bk h=>by
  obtain ⟨a',v',r',k1,k2,k3⟩:=g.Cr k bk (Vs h)
  exact ⟨a',v',r',k1,k2,k3.step (Kj c id)⟩,g.K6,fun k k' bk bk' h h' hf=>g.inj k k' bk bk' (Vs h) (Vs h') hf⟩
def Cx.pass (c:Cx) (n id:Nat) (cells:List AV) (T:TypeId):Cx:=
 {w:=c.w,f:=fun k=>if k=n then c.f id else c.f k,al:=fun k=>c.al k∨k=n,M:=fun k=>if k=id then none else if k=n then some ⟨cells,T⟩ else c.M k,no:=c.no}
theorem Tz {B:Nat} {c:Cx} (g:Good B c) {n id:Nat} (hn:¬c.al n) {Cr:B5} (hM:c.M id=some Cr) (cells:List AV) (T:TypeId):Step c (c.pass n id cells T):=by
 refine ⟨rfl,rfl,rfl,Nat.le_refl _,fun _ _ _=>rfl,fun b _ ho=> ?_,fun k hk=> ?_,fun _ h=> .inl h,fun _=>Iff.rfl,fun b arr T h=>⟨arr,h,rfl⟩,Nat.le_refl _⟩
 ·obtain ⟨k,bk,hk,hf⟩:=ho
  by_cases h:k=id
  ·simp [Cx.pass,h] at hk
  ·by_cases h':k=n
   ·subst h';simp only [Cx.pass,if_true] at hf;exact ⟨id,Cr,hM,hf⟩
   ·simp only [Cx.pass,h,h',if_false] at hk hf;exact ⟨k,bk,hk,hf⟩
 ·have:k≠n:=fun h=>hn (h ▸ hk)
  simp [Cx.pass,this]
theorem iK {B:Nat} {c:Cx} (g:Good B c) {n id:Nat} (hn:¬c.al n) {Cr:B5} (hM:c.M id=some Cr) {cells:List AV} {arr:Array Value} {vs rest:List Value} (ho:c.w.heap[c.f id]?=some (.cells arr Cr.ty)) (h1:arr.toList=vs++rest) (h2:Cf c cells vs):Good B (c.pass n id cells Cr.ty):=by
 have st:=Tz g hn hM cells Cr.ty
 have hid:id≠n:=fun h=>hn (h ▸ (g.low id Cr hM).2)
 have hk0:∀k bk,(c.pass n id cells Cr.ty).M k=some bk→k≠id∧(k=n∨(k≠n∧c.M k=some bk)):=by
  intro k bk h
  by_cases hk:k=id
  ·simp [Cx.pass,hk] at h
  ·by_cases hk':k=n
   ·exact ⟨hk,.inl hk'⟩
   ·simp only [Cx.pass,hk,hk',if_false] at h;exact ⟨hk,.inr ⟨hk',h⟩⟩
 refine ⟨g.hB,fun k bk h=> ?_,fun k bk h=> ?_,g.K6,fun k k' bk bk' h h' hf=> ?_⟩
 ·obtain ⟨_,rfl|⟨hk,hM'⟩⟩:=hk0 k bk h
  ·simp only [Cx.pass,if_true];exact ⟨(g.low id Cr hM).1,.inr trivial⟩
  ·simp only [Cx.pass,hk,if_false];exact ⟨(g.low k bk hM').1,.inl (g.low k bk hM').2⟩
 ·obtain ⟨hki,rfl|⟨hk,hM'⟩⟩:=hk0 k bk h
  ·simp only [Cx.pass,hki,if_true,if_false,Option.some.injEq] at h
   subst h
   refine ⟨arr,vs,rest,?_,h1,h2.step st⟩
   simp only [Cx.pass,if_true];exact ho
  ·obtain ⟨a',v',r',k1,k2,k3⟩:=g.Cr k bk hM'
   exact ⟨a',v',r',by simp only [Cx.pass,hk,if_false];exact k1,k2,k3.step st⟩
 ·obtain ⟨hki,rfl|⟨hk,hM1⟩⟩:=hk0 k bk h<;>obtain ⟨hki',rfl|⟨hk',hM2⟩⟩:=hk0 k' bk' h'
  ·rfl
  ·exfalso
   simp only [Cx.pass,hk',if_true,if_false] at hf
   exact hki' (g.inj k' id bk' Cr hM2 hM hf.symm)
  ·exfalso
   simp only [Cx.pass,hk,if_true,if_false] at hf
   exact hki (g.inj k id bk Cr hM1 hM hf)
  ·simp only [Cx.pass,hk,hk',if_false] at hf;exact g.inj k k' bk bk' hM1 hM2 hf
def Cx.more (c:Cx) (o:Obj):Cx:={c with w:=c.w.alloc o}
theorem Tt {B:Nat} {c:Cx} (g:Good B c) (o:Obj):Step c (c.more o):=by
 refine ⟨rfl,rfl,rfl,by simp [Cx.more],fun b hb _=>Below.heap_alloc _ _ b hb,fun b hb ho=>ho,fun _ _=>rfl,fun _ h=>h,fun _=>Iff.rfl,fun b a' T' h=>⟨a',?_,rfl⟩,Nat.le_refl _⟩
 show (c.w.alloc o).heap[b]?=_
 rw [Below.heap_alloc _ _ b (Hl h)];exact h
theorem fC {B:Nat} {c:Cx} (g:Good B c) (o:Obj):Good B (c.more o):=by
 have hB:=g.hB
 refine ⟨by simp [Cx.more];omega,g.low,fun id Cr h=> ?_,g.K6,g.inj⟩
 obtain ⟨a',v',r',k1,k2,k3⟩:=g.Cr id Cr h
 refine ⟨a',v',r',?_,k2,k3.step (Tt g o)⟩
 show (c.w.alloc o).heap[c.f id]?=_
 rw [Below.heap_alloc _ _ _ (Hl k1)];exact k1
theorem Xy {B:Nat} {c:Cx} (g:Good B c) (o:Obj):(c.more o).Ch c.w.heap.size:=by
 refine ⟨by simp [Cx.more],fun ⟨id,Cr,hM,hf⟩=> ?_,fun h=> ?_⟩
 ·have:=g.lt hM;simp only [Cx.more] at hf;omega
 ·have:=g.K6 _ h;have:=g.hB;omega
def Cx.drew (c:Cx):Cx:={c with w:=c.w.drew}
theorem Gu (c:Cx):Step c c.drew:=⟨rfl,rfl,rfl,Nat.le_refl _,fun _ _ _=>rfl,fun _ _ h=>h,fun _ _=>rfl,fun _ h=>h,fun _=>Iff.rfl,fun b arr T h=>⟨arr,h,rfl⟩,xL (Nat.le_succ _)⟩
theorem J5 {B:Nat} {c:Cx} (g:Good B c):Good B c.drew:=
 ⟨g.hB,g.low,fun id Cr h=>by
  obtain ⟨a',v',r',k1,k2,k3⟩:=g.Cr id Cr h
  exact ⟨a',v',r',k1,k2,k3.step (Gu c)⟩,g.K6,g.inj⟩
end Go.Proofs.YtmhnnmfcjdnlhaaGreatDoor
set_option linter.unusedVariables false
set_option linter.unusedSimpArgs false
namespace Go.Proofs.YtmhnnmfcjdnlhaaGreatDoor
open Go.RowKit
section
variable {P:Program}
theorem Ds {t:TypeId} {n:Nat} (h:D5 P t=some n) (w:World):(sizeOf t).run P w=.ok n w:=by
 unfold D5 at h
 cases hi:P.info? t with
 |none=>simp [hi] at h
 |some i=>simp [hi] at h;simp [sizeOf,typeInfo,hi,h]
theorem iA {t:TypeId} {n:Nat} (h:Jv P t=some n) (w:World):∃i,(typeInfo t).run P w=.ok i w∧i.bytes=n:=by
 unfold Jv at h
 cases hi:P.info? t with
 |none=>simp [hi] at h
 |some i=>simp [hi] at h;exact ⟨i,by simp [typeInfo,hi],h⟩
theorem Kd {t:TypeId} {z:Value} (h:Gy P t=some z) (w:World):(zeroValue t).run P w=.ok z w:=by
 unfold Gy at h
 cases hi:P.info? t with
 |none=>simp [hi] at h
 |some i=>simp [hi] at h;simp [zeroValue,typeInfo,hi,h]
theorem Kk {t:TypeId} {d:TypeDesc} (h:P.underlying t=some d) (w:World):(isAgg t).run P w=.ok (Hz d) w:=by
 simp only [isAgg,Sem.run_bind,run_underlying h,Result.andThen_ok]
 cases d<;>rfl
theorem Lh {α:Type}:∀(s:Sem α) (a:α),Cd P s=some a→∀w,s.run P w=.ok a w
 |.pure a,b,h,w=>by simp only [Cd,Option.some.injEq] at h;subst h;rfl
 |.program k,b,h,w=>Lh (k P) b h w
 |.load ..,b,h,w=>by simp [Cd] at h
 |.store ..,b,h,w=>by simp [Cd] at h
 |.new ..,b,h,w=>by simp [Cd] at h
 |.shape ..,b,h,w=>by simp [Cd] at h
 |.freeze ..,b,h,w=>by simp [Cd] at h
 |.frozen ..,b,h,w=>by simp [Cd] at h
 |.getObj ..,b,h,w=>by simp [Cd] at h
 |.setObj ..,b,h,w=>by simp [Cd] at h
 |.choose ..,b,h,w=>by simp [Cd] at h
 |.sys ..,b,h,w=>by simp [Cd] at h
 |.mark ..,b,h,w=>by simp [Cd] at h
 |.halt ..,b,h,w=>by simp [Cd] at h
theorem Q9 {v:Value} {x:AV} (h:Q6 v=some x) (c:Cx):B9 c x v:=by
 unfold Q6 at h
 split at h
 ·simp only [Option.some.injEq] at h;subst h;exact .B1
 ·simp only [Option.some.injEq] at h;subst h;exact .Ki
 ·simp only [Option.some.injEq] at h;subst h;exact .Pj
 ·cases hs:Of v with
  |true=>rw [hs] at h;simp only [cond_true,Option.some.injEq] at h;subst h;exact .sc v hs
  |false=>rw [hs] at h;simp at h
theorem Lc:∀{vs:List Value} {xs:List AV},Kw vs=some xs→∀c:Cx,Cf c xs vs
 |[],xs,h,c=>by simp only [Kw,Option.some.injEq] at h;subst h;exact .nil
 |v::vs,xs,h,c=>by
  unfold Kw at h
  cases h1:Q6 v with
  |none=>simp [h1] at h
  |some x=>
   cases h2:Kw vs with
   |none=>simp [h1,h2] at h
   |some ys=>
    simp only [h1,h2,Option.some.injEq] at h
    subst h
    exact .cons (Q9 h1 c) (Lc h2 c)
theorem Ix {v:Value} {x:AV} (h:Hc v=some x) (c:Cx):B9 c x v:=by
 unfold Hc at h
 split at h
 ·rename_i cs
  obtain ⟨l,hl,rfl⟩:=Option.map_eq_some_iff.1 h
  have:=B9.agg (Lc hl c)
  simpa using this
 ·rename_i cs
  obtain ⟨l,hl,rfl⟩:=Option.map_eq_some_iff.1 h
  have:=B9.B4 (Lc hl c)
  simpa using this
 ·exact Q9 h c
theorem Z4 {c:Cx} {x:AV} {v v':Value} (h:Ml x=some v) (r:B9 c x v'):v'=v:=by
 cases r<;>simp [Ml] at h<;>exact h
theorem Lr {c:Cx}:∀{xs:List AV} {vs vs':List Value},Iz xs=some vs→Cf c xs vs'→vs'=vs
 |[],vs,vs',h,r=>by cases r;simp only [Iz,Option.some.injEq] at h;exact h
 |x::xs,vs,vs',h,r=>by
  cases r with
  |cons r1 r2=>
   unfold Iz at h
   cases h1:Ml x with
   |none=>simp [h1] at h
   |some u=>
    cases h2:Iz xs with
    |none=>simp [h1,h2] at h
    |some us=>
     simp only [h1,h2,Option.some.injEq] at h
     subst h
     rw [Z4 h1 r1,Lr h2 r2]
theorem jI {c:Cx} {x:AV} {v v':Value} (h:Lu x=some v) (r:B9 c x v'):v'=v:=by
 cases r with
 |agg hr=>
  obtain ⟨l,hl,rfl⟩:=Option.map_eq_some_iff.1 (by simpa [Lu] using h)
  rw [Lr hl hr]
 |B4 hr=>
  obtain ⟨l,hl,rfl⟩:=Option.map_eq_some_iff.1 (by simpa [Lu] using h)
  rw [Lr hl hr]
 |_=>simp [Lu,Ml] at h<;>exact h
theorem Hw {c:Cx} {x:AV} {v:Value} {cs:List AV} (r:B9 c x v) (h:Dl x=some cs):Cf c cs v.cells.toList:=by
 cases r with
 |E9=>simp [Dl] at h
 |B4=>simp [Dl] at h
 |agg hr=>simp only [Dl,Option.some.injEq] at h;subst h;simpa [Value.cells] using hr
 |sc v hs=>
  simp only [Dl,Option.some.injEq] at h;subst h
  have:v.cells=#[v]:=by cases v<;>simp [Of] at hs<;>rfl
  rw [this];exact Cf.one (.sc v hs)
 |Ki=>simp only [Dl,Option.some.injEq] at h;subst h;exact Cf.one .Ki
 |B1=>simp only [Dl,Option.some.injEq] at h;subst h;exact Cf.one .B1
 |ptr ha off=>simp only [Dl,Option.some.injEq] at h;subst h;exact Cf.one (.ptr ha off)
 |Dn a b d off=>simp only [Dl,Option.some.injEq] at h;subst h;exact Cf.one (.Dn a b d off)
 |Ga a cap ex he hm hn=>simp only [Dl,Option.some.injEq] at h;subst h;exact Cf.one (.Ga a cap ex he hm hn)
 |Ek a b d e f g=>simp only [Dl,Option.some.injEq] at h;subst h;exact Cf.one (.Ek a b d e f g)
 |sl a b d e f g i=>simp only [Dl,Option.some.injEq] at h;subst h;exact Cf.one (.sl a b d e f g i)
 |fn f hr=>simp only [Dl,Option.some.injEq] at h;subst h;exact Cf.one (.fn f hr)
 |Pj=>simp only [Dl,Option.some.injEq] at h;subst h;exact Cf.one .Pj
 |Qe u q=>simp only [Dl,Option.some.injEq] at h;subst h;exact Cf.one (.Qe u q)
theorem Zz {c:Cx} {x:AV} {v:Value} (r:B9 c x v) (h:Cq x=true):v.oneCell'=true:=by
 cases r with
 |sc v hs=>cases v<;>simp [Of] at hs<;>rfl
 |_=>first|rfl|simp [Cq] at h
theorem Kf {c:Cx}:∀{xs:List AV} {vs:List Value},Cf c xs vs→xs.all Cq=true→∀v∈vs,v.oneCell'=true
 |[],_,r,_,v,hv=>by cases r;simp at hv
 |x::xs,_,r,h,v,hv=>by
  cases r with
  |cons r1 r2=>
   simp only [List.all_cons,Bool.and_eq_true] at h
   rcases List.mem_cons.1 hv with rfl|hv
   ·exact Zz r1 h.1
   ·exact Kf r2 h.2 v hv
def Uj (M:Nat→Option B5):Wr→Nat→Option B5
 |[],id=>M id
 |(i,r)::rest,id=>Uj (fun k=>if k=i then r else M k) rest id
def Ge (P:Program) (B n:Nat) (c:Cx) (s:Sem Next) (v:AV) (d:Wr):Prop:=
 ∃(nx:Next) (v':Value) (c':Cx),s.run P c.w=.ok nx c'.w∧(nx=.value v'∨(nx=.skip∧v'=undef))∧B9 c' v v'∧Step c c'∧Good B c'∧(∀id,c'.al id↔c.al id∨id=n)∧∀id,c'.M id=Uj c.M d id
variable {B n:Nat} {c:Cx}
theorem Ge.still {s:Sem Next} {v:AV} {v':Value} (g:Good B c) (hr:s.run P c.w=.ok (.value v') c.w) (hv:B9 c v v'):Ge P B n c s v []:=
 ⟨_,v',c.tick n,hr,.inl rfl,hv.step (Hx c n),Hx c n,Mo g n,fun _=>Iff.rfl,fun _=>rfl⟩
theorem Ge.made {s:Sem Next} {v:AV} {v':Value} (g:Good B c) (hn:¬c.al n) {arr:Array Value} {T:TypeId} {cells:List AV} {vs rest:List Value} (h1:arr.toList=vs++rest) (h2:Cf c cells vs)
  (hr:s.run P c.w=.ok (.value v') (c.w.alloc (.cells arr T))) (hv:B9 (c.new n arr T cells) v v'):Ge P B n c s v [(n,some ⟨cells,T⟩)]:=
 ⟨_,v',c.new n arr T cells,hr,.inl rfl,hv,La g hn arr T cells,Oi g hn h1 h2,fun _=>Iff.rfl,fun _=>rfl⟩
theorem Qp {w:World} {b o:Nat} {cs:List AV} {vs:List Value} (hr:Cf c cs vs) (hc:Iq w b o vs) {t:TypeId} {off:Nat} {x:AV} (h:apart P t cs off=some x):
  ∃v',(loadVar t ⟨b,o+off,none⟩).run P w=.ok v' w∧B9 c x v':=by
 unfold apart at h
 cases hu:P.underlying t with
 |none=>simp [hu] at h
 |some d=>
  simp only [hu] at h
  cases hg:Hz d with
  |true=>
   rw [hg] at h
   simp only [cond_true] at h
   cases hz:D5 P t with
   |none=>simp [hz] at h
   |some k=>
    simp only [hz] at h
    cases hb:Nat.ble (off+k) cs.length with
    |false=>simp [hb] at h
    |true=>
     simp only [hb,cond_true,Option.some.injEq] at h
     subst h
     have hle:off+k≤vs.length:=by rw [← hr.length];exact Nat.le_of_ble_eq_true hb
     have hlen:((vs.drop off).take k).length=k:=by simp;omega
     refine ⟨.agg ((vs.drop off).take k).toArray,?_,.agg ((hr.drop off).take k)⟩
     have hl:=run_loadCells_list (P:=P) w ⟨b,o+off,none⟩ ((vs.drop off).take k) (fun j v hv=>by
      rw [addr_add]
      rw [List.getElem?_take] at hv
      split at hv
      ·rw [List.getElem?_drop] at hv
       have:=hc (off+j) v hv
       rwa [← Nat.add_assoc] at this
      ·cases hv)
     rw [hlen] at hl
     simp only [loadVar,Sem.run_bind,Kk hu,Result.andThen_ok,hg,if_true,Ds hz,hl,Sem.run_pure]
  |false=>
   rw [hg] at h
   simp only [cond_false] at h
   obtain ⟨v',hv,hx⟩:=hr.get h
   refine ⟨v',?_,hx⟩
   have:=hc off v' hv
   simp only [loadVar,Sem.run_bind,Kk hu,Result.andThen_ok,hg,load,Sem.run]
   simp [Sem.run,this]
theorem Good.cells (g:Good B c) {id:Nat} {b:B5} (h:c.M id=some b):∃(arr:Array Value) (vs rest:List Value),c.w.heap[c.f id]?=some (.cells arr b.ty)∧arr.toList=vs++rest∧Cf c b.cells vs∧Iq c.w (c.f id) 0 vs:=by
 obtain ⟨arr,vs,rest,h1,h2,h3⟩:=g.Cr id b h
 refine ⟨arr,vs,rest,h1,h2,h3,fun k v hv=> ?_⟩
 have hk:k<vs.length:=by
  rcases Nat.lt_or_ge k vs.length with h'|h'
  ·exact h'
  ·rw [List.getElem?_eq_none h'] at hv;cases hv
 have:arr[k]?=some v:=by rw [← Array.getElem?_toList,h2,List.getElem?_append_left hk];exact hv
 simp [World.cell?,h1,this]
variable {ev:Operand→Value} {ρ:Operand→Option AV} {look:Nat→Option B5} {o:Oper}
theorem sH (g:Good B c) (hl:∀id b,look id=some b→c.M id=some b) {t:TypeId} {a:Operand} (ho:o.op=.load t a) {x v:AV} {d:Wr} (hx:B9 c x (ev a)) (h:Fq P look t x=some (v,d)):Ge P B n c (execOp ev o) v d:=by
 unfold Fq at h
 split at h
 ·rename_i id off
  cases hb:look id with
  |none=>simp [hb] at h
  |some b=>
   simp only [hb] at h
   obtain ⟨y,hy,he⟩:=Option.map_eq_some_iff.1 h
   simp only [Prod.mk.injEq] at he
   obtain ⟨rfl,rfl⟩:=he
   obtain ⟨arr,vs,rest,-,-,h3,h4⟩:=g.cells (hl id b hb)
   obtain ⟨v',hr,hv⟩:=Qp (w:=c.w) h3 h4 hy
   rw [Nat.zero_add] at hr
   have ea:ev a=.pointer (some ⟨c.f id,off,none⟩):=by generalize ev a=u at hx;cases hx;rfl
   exact .still g (by simp only [execOp,ho,Instr.loadAt,ea,Instr.sureAddr,Sem.run_bind,Sem.run_pure,Result.andThen_ok,hr]) hv
 ·rename_i cs off
  obtain ⟨y,hy,he⟩:=Option.map_eq_some_iff.1 h
  simp only [Prod.mk.injEq] at he
  obtain ⟨rfl,rfl⟩:=he
  generalize hu:ev a=u at hx
  cases hx with
  |Dn hb hr hc off=>
   obtain ⟨v',hr',hv⟩:=Qp (w:=c.w) hr hc hy
   exact .still g (by simp only [execOp,ho,Instr.loadAt,hu,Instr.sureAddr,Sem.run_bind,Sem.run_pure,Result.andThen_ok,hr']) hv
 ·cases h
end
end Go.Proofs.YtmhnnmfcjdnlhaaGreatDoor
set_option linter.unusedVariables false
set_option linter.unusedSimpArgs false
namespace Go.Proofs.YtmhnnmfcjdnlhaaGreatDoor
open Go.RowKit
section
variable {P:Program} {B n:Nat} {c:Cx} {ev:Operand→Value} {ρ:Operand→Option AV} {look:Nat→Option B5} {o:Oper}
theorem dS (g:Good B c) {x:Operand} (ho:o.op=.move x∨o.op=.assign x) {y:AV} (hx:B9 c y (ev x)):Ge P B n c (execOp ev o) y []:=by
 rcases ho with ho|ho<;>exact .still g (by simp only [execOp,ho,Sem.run_pure]) hx
theorem w7 (g:Good B c) {t a b:Operand} (ho:o.op=.pick t a b) {q:Bool} (ht:B9 c (.sc (.bool q)) (ev t)) {x:AV} (hx:B9 c x (ev (bif q then a else b))):Ge P B n c (execOp ev o) x []:=by
 have et:ev t=.bool q:=by generalize ev t=u at ht;cases ht;rfl
 refine .still g (v':=ev (bif q then a else b)) ?_ hx
 cases q<;>simp [execOp,ho,et,asBool]
theorem eN {arr:Array Value} {T:TypeId} {cells:List AV}:B9 (c.new n arr T cells) (.ptr n 0) (.pointer (some ⟨c.w.heap.size,0,none⟩)):=by
 have h:(c.new n arr T cells).f n=c.w.heap.size:=by simp [Cx.new]
 have:=B9.ptr (c:=c.new n arr T cells) (id:=n) (.inr rfl) 0
 rwa [h] at this
theorem lO (g:Good B c) (hn:¬c.al n) {t:TypeId} (ho:o.op=.alloc t) {cs:List AV} (h:(Gy P t).bind (fun z=>(Hc z).bind Dl)=some cs):Ge P B n c (execOp ev o) (.ptr n 0) [(n,some ⟨cs,t⟩)]:=by
 obtain ⟨z,hz,h⟩:=Option.bind_eq_some_iff.1 h
 obtain ⟨x,hx,h⟩:=Option.bind_eq_some_iff.1 h
 have hr:=Hw (Ix hx c) h
 refine .made g hn (arr:=z.cells) (rest:=[]) (by simp) hr ?_ eN
 simp [execOp,ho,Instr.alloc,Kd hz,newVar,newRow,newObj];rfl
theorem Abu (g:Good B c) (hn:¬c.al n) {t:TypeId} {x:Operand} (ho:o.op=.box t x) {y:AV} (hx:B9 c y (ev x)) {cs:List AV} (h:Dl y=some cs):Ge P B n c (execOp ev o) (.ptr n 0) [(n,some ⟨cs,t⟩)]:=by
 have hr:=Hw hx h
 refine .made g hn (arr:=(ev x).cells) (rest:=[]) (by simp) hr ?_ eN
 simp [execOp,ho,Instr.box,newVar,newRow,newObj];rfl
theorem Y8 {cs:List AV} {vs:List Value} {ncs:List AV} {new:List Value} (hr:Cf c cs vs) (hn:Cf c ncs new) (off:Nat):Cf c (Eg cs off ncs) (vs.take off++new++vs.drop (off+new.length)):=by
 unfold Eg
 rw [hn.length]
 exact ((hr.take off).append hn).append (hr.drop _)
theorem Ge.wrote (g:Good B c) {id:Nat} {b:B5} (hM:c.M id=some b) {arr:Array Value} {vs rest:List Value} (ho:c.w.heap[c.f id]?=some (.cells arr b.ty)) (h1:arr.toList=vs++rest) (hr:Cf c b.cells vs)
  {off:Nat} {new:List Value} {ncs:List AV} (hle:off+new.length≤vs.length) (hnew:Cf c ncs new) {s:Sem Next} {nx:Next} {v:AV} {v':Value}
  (hrun:s.run P c.w=.ok nx (c.w.setRow (c.f id) (arr.toList.take off++new++arr.toList.drop (off+new.length)).toArray)) (hnx:nx=.value v'∨(nx=.skip∧v'=undef))
  (hv:∀c':Cx,Step c c'→B9 c' v v'):Ge P B n c s v [(id,some ⟨Eg b.cells off ncs,b.ty⟩)]:=by
 have hal:(vs++rest).length=arr.size:=by rw [← h1];simp
 have e0:arr.toList.take off++new++arr.toList.drop (off+new.length)=(vs.take off++new++vs.drop (off+new.length))++rest:=by
  rw [h1,List.take_append_of_le_length (by omega),List.drop_append_of_le_length hle];simp
 have hs:(arr.toList.take off++new++arr.toList.drop (off+new.length)).toArray.size=arr.size:=by
  rw [e0];simp at hal ⊢;omega
 have st:=Re (n:=n) g hM ho hs b.ty (Eg b.cells off ncs)
 exact ⟨nx,v',c.put n id _ b.ty (Eg b.cells off ncs),hrun,hnx,hv _ st,st,Yd g hM ho hs (vs:=vs.take off++new++vs.drop (off+new.length)) (rest:=rest) (by simpa using e0) (Y8 hr hnew off),fun _=>Iff.rfl,fun _=>rfl⟩
theorem mE (g:Good B c) (hl:∀id b,look id=some b→c.M id=some b) {t:TypeId} {a x:Operand} (ho:o.op=.store t a x) {p y v:AV} {d:Wr} (hp:B9 c p (ev a)) (hy:B9 c y (ev x)) (h:Rw P look t p y=some (v,d)):Ge P B n c (execOp ev o) v d:=by
 unfold Rw at h
 split at h
 ·rename_i id off cs sz hcs hsz
  cases hb:look id with
  |none=>simp [hb] at h
  |some b=>
   simp only [hb] at h
   cases hc:(Nat.beq cs.length sz && Nat.ble (off+cs.length) b.cells.length && cs.all Cq) with
   |false=>simp [hc] at h
   |true=>
    simp only [hc,cond_true,Option.some.injEq,Prod.mk.injEq] at h
    obtain ⟨rfl,rfl⟩:=h
    simp only [Bool.and_eq_true] at hc
    obtain ⟨⟨h1,h2⟩,h3⟩:=hc
    obtain ⟨arr,vs,rest,k1,k2,k3,-⟩:=g.cells (hl id b hb)
    have hr:=Hw hy hcs
    have hlen:(ev x).cells.toList.length=sz:=by rw [← hr.length];exact Nat.eq_of_beq_eq_true h1
    have hle:off+(ev x).cells.toList.length≤vs.length:=by rw [← hr.length,← k3.length];exact Nat.le_of_ble_eq_true h2
    have ea:ev a=.pointer (some ⟨c.f id,off,none⟩):=by generalize ev a=u at hp;cases hp;rfl
    have hal:(vs++rest).length=arr.size:=by rw [← k2];simp
    have hst:=run_storeCells_at P (c.f id) off b.ty (ev x).cells.toList 0 arr c.w k1 (by simp at hal hle ⊢;omega) (Kf hr h3)
    refine .wrote g (hl id b hb) k1 k2 k3 (new:=(ev x).cells.toList) hle hr (nx:=.skip) (v':=undef) ?_ (.inr ⟨rfl,rfl⟩) (fun c' _=> .E9 _)
    simp only [Nat.add_zero] at hst
    have hlen':(ev x).cells.size=sz:=by simpa using hlen
    simp only [execOp,ho,Instr.storeAt,ea,Instr.sureAddr,Sem.run_bind,Sem.run_pure,Result.andThen_ok,storeVar,Ds hsz,hlen',ne_eq,not_true_eq_false,if_false,hst]
 ·cases h
theorem Vv (g:Good B c) {t:TypeId} {x:Operand} {fi:Nat} (ho:o.op=.fieldAddr t x fi) {y v:AV} {d:Wr} (hy:B9 c y (ev x)) (h:aO P t fi y=some (v,d)):Ge P B n c (execOp ev o) v d:=by
 unfold aO at h
 split at h
 ·rename_i id off
  split at h
  ·rename_i fs hu
   split at h
   ·rename_i fd hf
    split at h
    ·rename_i k hs
     simp only [Option.some.injEq,Prod.mk.injEq] at h
     obtain ⟨rfl,rfl⟩:=h
     generalize hev:ev x=u at hy
     cases hy with
     |ptr ha off=>
      refine .still g (v':=.pointer (some ⟨c.f id,off+fd.offset,none⟩)) ?_ (.ptr ha _)
      simp [execOp,ho,Instr.fieldAt,hev,run_underlying hu,hf,Instr.sureAddr,fieldPlace,Ds hs,Addr.add_lit]
    ·cases h
   ·cases h
  ·cases h
 ·rename_i cs off
  split at h
  ·rename_i fs hu
   split at h
   ·rename_i fd hf
    split at h
    ·rename_i k hs
     simp only [Option.some.injEq,Prod.mk.injEq] at h
     obtain ⟨rfl,rfl⟩:=h
     generalize hev:ev x=u at hy
     cases hy with
     |Dn hb hr hc off=>
      rename_i b o' vs
      refine .still g (v':=.pointer (some ⟨b,o'+(off+fd.offset),none⟩)) ?_ (.Dn hb hr hc _)
      simp [execOp,ho,Instr.fieldAt,hev,run_underlying hu,hf,Instr.sureAddr,fieldPlace,Ds hs,Addr.add_lit,Nat.add_assoc]
    ·cases h
   ·cases h
  ·cases h
 ·cases h
theorem aB {b o sz:Nat} {vs:List Value} {w:World} (hc:Iq w b o vs) (i:Nat):Iq w b (o+i*sz) ((vs.drop (i*sz)).take sz):=by
 intro k v hv
 rw [List.getElem?_take] at hv
 split at hv
 ·rw [List.getElem?_drop] at hv
  have:=hc _ v hv
  rwa [← Nat.add_assoc] at this
 ·cases hv
theorem Wz (g:Good B c) {t:TypeId} {x i:Operand} (ho:o.op=.indexAddr t x i) {y z v:AV} {d:Wr} (hy:B9 c y (ev x)) (hz:B9 c z (ev i)) (h:Nf P t y z=some (v,d)):Ge P B n c (execOp ev o) v d:=by
 unfold Nf at h
 split at h
 ·rename_i kk z
  have ei:ev i=.int kk z:=by generalize ev i=u at hz;cases hz;rfl
  split at h
  ·rename_i e hu
   split at h
   ·rename_i sz hs
    split at h
    ·rename_i id off esz m cap ex
     cases hq:(decide (0≤z) && decide (z<(m:Int))) with
     |false=>simp [hq] at h
     |true=>
      simp only [hq,cond_true,Option.some.injEq,Prod.mk.injEq] at h
      obtain ⟨rfl,rfl⟩:=h
      simp only [Bool.and_eq_true,decide_eq_true_eq] at hq
      generalize hev:ev x=u at hy
      cases hy with
      |sl ha hb hs' hn hc he hm=>
       refine .still g (v':=.pointer (some ⟨c.f id,off+z.toNat*sz,none⟩)) ?_ (.ptr ha _)
       simp [execOp,ho,Instr.indexAt,hev,ei,asIntOf,run_underlying hu,hq.1,hq.2,Ds hs,Addr.add_lit]
    ·rename_i m cs ex
     cases hq:(decide (0≤z) && decide (z<(m:Int))) with
     |false=>simp [hq] at h
     |true=>
      simp only [hq,cond_true,Option.some.injEq,Prod.mk.injEq] at h
      obtain ⟨rfl,rfl⟩:=h
      simp only [Bool.and_eq_true,decide_eq_true_eq] at hq
      generalize hev:ev x=u at hy
      cases hy with
      |Ga a cap ex he hm hn=>simp at hq;omega
      |Ek hb hr hc hn he hm=>
       rename_i b o' vs cap
       refine .still g (v':=.pointer (some ⟨b,o'+z.toNat*sz+0,none⟩)) ?_ (.Dn hb ((hr.drop _).take _) (aB hc _) 0)
       simp [execOp,ho,Instr.indexAt,hev,ei,asIntOf,run_underlying hu,hq.1,hq.2,Ds hs,Addr.add_lit]
    ·cases h
   ·cases h
  ·rename_i len e hu
   split at h
   ·rename_i sz hs
    split at h
    ·rename_i id off
     cases hq:(decide (0≤z) && decide (z<(len:Int))) with
     |false=>simp [hq] at h
     |true=>
      simp only [hq,cond_true,Option.some.injEq,Prod.mk.injEq] at h
      obtain ⟨rfl,rfl⟩:=h
      simp only [Bool.and_eq_true,decide_eq_true_eq] at hq
      generalize hev:ev x=u at hy
      cases hy with
      |ptr ha off=>
       refine .still g (v':=.pointer (some ⟨c.f id,off+z.toNat*sz,none⟩)) ?_ (.ptr ha _)
       simp [execOp,ho,Instr.indexAt,hev,ei,asIntOf,run_underlying hu,hq.1,hq.2,Ds hs,Addr.add_lit,Instr.sureAddr]
    ·rename_i cs off
     cases hq:(decide (0≤z) && decide (z<(len:Int))) with
     |false=>simp [hq] at h
     |true=>
      simp only [hq,cond_true,Option.some.injEq,Prod.mk.injEq] at h
      obtain ⟨rfl,rfl⟩:=h
      simp only [Bool.and_eq_true,decide_eq_true_eq] at hq
      generalize hev:ev x=u at hy
      cases hy with
      |Dn hb hr hc off=>
       rename_i b o' vs
       refine .still g (v':=.pointer (some ⟨b,o'+(off+z.toNat*sz),none⟩)) ?_ (.Dn hb hr hc _)
       simp [execOp,ho,Instr.indexAt,hev,ei,asIntOf,run_underlying hu,hq.1,hq.2,Ds hs,Addr.add_lit,Instr.sureAddr,Nat.add_assoc]
    ·cases h
   ·cases h
  ·cases h
 ·cases h
theorem bJ {cs:List AV} {vs:List Value} (hr:Cf c cs vs) {t:TypeId} {off:Nat} {x:AV} (h:apart P t cs off=some x) (w:World):∃v',(part t vs.toArray off).run P w=.ok v' w∧B9 c x v':=by
 unfold apart at h
 cases hu:P.underlying t with
 |none=>simp [hu] at h
 |some d=>
  simp only [hu] at h
  cases hg:Hz d with
  |true=>
   rw [hg] at h
   simp only [cond_true] at h
   cases hz:D5 P t with
   |none=>simp [hz] at h
   |some k=>
    simp only [hz] at h
    cases hb:Nat.ble (off+k) cs.length with
    |false=>simp [hb] at h
    |true=>
     simp only [hb,cond_true,Option.some.injEq] at h
     subst h
     refine ⟨.agg ((vs.drop off).take k).toArray,?_,.agg ((hr.drop off).take k)⟩
     have e:vs.toArray.extract off (off+k)=((vs.drop off).take k).toArray:=by apply Array.ext';simp [List.drop_take]
     simp only [part,Sem.run_bind,Kk hu,Result.andThen_ok,hg,if_true,Ds hz,Sem.run_pure,e]
  |false=>
   rw [hg] at h
   simp only [cond_false] at h
   obtain ⟨v',hv,hx⟩:=hr.get h
   refine ⟨v',?_,hx⟩
   simp [part,Sem.run_bind,Kk hu,Result.andThen_ok,hg,hv]
theorem nQ (g:Good B c) {t:TypeId} {x:Operand} {fi:Nat} (ho:o.op=.field t x fi) {y v:AV} {d:Wr} (hy:B9 c y (ev x)) (h:V9 P t fi y=some (v,d)):Ge P B n c (execOp ev o) v d:=by
 unfold V9 at h
 split at h
 ·rename_i cs
  split at h
  ·rename_i fs hu
   split at h
   ·rename_i fd hf
    obtain ⟨y',hy',he⟩:=Option.map_eq_some_iff.1 h
    simp only [Prod.mk.injEq] at he
    obtain ⟨rfl,rfl⟩:=he
    generalize hev:ev x=u at hy
    cases hy with
    |agg hr=>
     obtain ⟨v',hrun,hv⟩:=bJ hr hy' c.w
     refine .still g (v':=v') ?_ hv
     simp [execOp,ho,Instr.field,hev,run_underlying hu,hf,asAgg,hrun]
   ·cases h
  ·cases h
 ·cases h
theorem jV (g:Good B c) {t:TypeId} {x i:Operand} (ho:o.op=.index t x i) {y z v:AV} {d:Wr} (hy:B9 c y (ev x)) (hz:B9 c z (ev i)) (h:Ql P t y z=some (v,d)):Ge P B n c (execOp ev o) v d:=by
 unfold Ql at h
 split at h
 ·rename_i cs kk z
  have ei:ev i=.int kk z:=by generalize ev i=u at hz;cases hz;rfl
  split at h
  ·rename_i len e hu
   split at h
   ·rename_i sz hs
    cases hq:(decide (0≤z) && decide (z<(len:Int))) with
    |false=>simp [hq] at h
    |true=>
     simp only [hq,cond_true] at h
     obtain ⟨y',hy',he⟩:=Option.map_eq_some_iff.1 h
     simp only [Prod.mk.injEq] at he
     obtain ⟨rfl,rfl⟩:=he
     simp only [Bool.and_eq_true,decide_eq_true_eq] at hq
     generalize hev:ev x=u at hy
     cases hy with
     |agg hr=>
      obtain ⟨v',hrun,hv⟩:=bJ hr hy' c.w
      refine .still g (v':=v') ?_ hv
      simp [execOp,ho,Instr.index,hev,ei,asIntOf,run_underlying hu,hq.1,hq.2,Ds hs,hrun]
   ·cases h
  ·cases h
 ·cases h
theorem Z9 (g:Good B c) {x:Operand} {i:Nat} (ho:o.op=.extract x i) {vs:List AV} (hy:B9 c (.B4 vs) (ev x)) {v:AV} (h:vs[i]?=some v):Ge P B n c (execOp ev o) v []:=by
 generalize hev:ev x=u at hy
 cases hy with
 |B4 hr=>
  obtain ⟨v',hv,hx⟩:=hr.get h
  refine .still g (v':=v') ?_ hx
  simp [execOp,ho,Instr.extract,hev,hv]
def Ad8:AV→Bool
 |.ptr ..|.Dn ..|.fn ..=>true
 |_=>false
theorem Li (g:Good B c) {x:Operand} (ho:o.op=.nilCheck x) {y:AV} (hy:B9 c y (ev x)) (h:Ad8 y=true):Ge P B n c (execOp ev o) y []:=by
 generalize hev:ev x=u at hy
 cases hy with
 |ptr ha off=>exact .still g (by simp [execOp,ho,hev]) (.ptr ha off)
 |Dn hb hr hc off=>exact .still g (by simp [execOp,ho,hev]) (.Dn hb hr hc off)
 |fn f hr=>exact .still g (by simp [execOp,ho,hev]) (.fn f hr)
 |_=>simp [Ad8] at h
theorem Ke {l:List Operand} (hρ:∀x∈l,∀y,ρ x=some y→B9 c y (ev x)) {ys:List AV} (h:opts ρ l=some ys):Cf c ys (l.map ev):=by
 induction l generalizing ys with
 |nil=>simp only [opts,Option.some.injEq] at h;subst h;exact .nil
 |cons x r ih=>
  unfold opts at h
  cases h1:ρ x with
  |none=>simp [h1] at h
  |some v=>
   cases h2:opts ρ r with
   |none=>simp [h1,h2] at h
   |some vs=>
    simp only [h1,h2,Option.some.injEq] at h
    subst h
    exact .cons (hρ x (by simp) v h1) (ih (fun y hy=>hρ y (by simp [hy])) h2)
theorem Xp (g:Good B c) {f:FuncId} {first caps:Array Operand} (ho:o.op=.makeFunc (.func f) first caps) (hf:first.toList=[]) (hρ:∀x∈caps.toList,∀y,ρ x=some y→B9 c y (ev x)) {l:List AV} (h:opts ρ caps.toList=some l):Ge P B n c (execOp ev o) (.fn f l) []:=by
 have hf':first=#[]:=by apply Array.ext';simpa using hf
 subst hf'
 have hr:=Ke hρ h
 have e:(caps.toList.map ev).toArray=caps.map ev:=by apply Array.ext';simp
 have hv:=B9.fn (c:=c) f hr
 rw [e] at hv
 exact .still g (by simp [execOp,ho,Instr.makeFunc]) hv
end
end Go.Proofs.YtmhnnmfcjdnlhaaGreatDoor
set_option linter.unusedVariables false
set_option linter.unusedSimpArgs false
namespace Go.Proofs.YtmhnnmfcjdnlhaaGreatDoor
open Go.RowKit
section
variable {P:Program} {B n:Nat} {c:Cx} {ev:Operand→Value} {ρ:Operand→Option AV} {look:Nat→Option B5} {o:Oper}
theorem Xs (off:Nat):∀(l:List Value) (k:Nat) (cs:Array Value),off+k+l.length≤cs.size→
  (l.zipIdx k).foldl (fun cs p=>cs.setIfInBounds (off+p.2) p.1) cs=(cs.toList.take (off+k)++l++cs.toList.drop (off+k+l.length)).toArray
 |[],k,cs,h=>by simp
 |v::r,k,cs,h=>by
  simp only [List.length_cons] at h
  rw [List.zipIdx_cons,List.foldl_cons]
  have ih:=Xs off r (k+1) (cs.setIfInBounds (off+k) v) (by simp;omega)
  simp only [Nat.zero_add] at ih ⊢
  rw [ih]
  have e:=list_seg_step cs.toList (off+k) v r (by simp;omega)
  simp only [List.length_cons]
  rw [← e]
  simp [Array.toList_setIfInBounds,Nat.add_assoc]
theorem Zp (off:Nat) (v cs:Array Value) (h:off+v.size≤cs.size):
  v.zipIdx.foldl (fun cs (c,j)=>cs.setIfInBounds (off+j) c) cs=(cs.toList.take off++v.toList++cs.toList.drop (off+v.size)).toArray:=by
 rw [← Array.foldl_toList]
 have:=Xs off v.toList 0 cs (by simpa using h)
 simpa using this
inductive kC (c:Cx):List (Nat×AV)→List (Nat×Value)→Prop
 |nil:kC c [] []
 |cons {i:Nat} {x:AV} {v:Value} {xs:List (Nat×AV)} {vs:List (Nat×Value)} (h:B9 c x v) (t:kC c xs vs):kC c ((i,x)::xs) ((i,v)::vs)
theorem Ru {place:Nat→Option (Nat×Nat)} {l:List (Nat×AV)} {l':List (Nat×Value)} (hl:kC c l l'):∀{zs cs:List AV} {vs:List Value},Cf c zs vs→Jm place zs l=some cs→∃us,Instr.fill place vs.toArray l'=some us.toArray∧Cf c cs us:=by
 induction hl with
 |nil=>intro zs cs vs hr h;simp only [Jm,Option.some.injEq] at h;subst h;exact ⟨vs,rfl,hr⟩
 |cons hx ht ih=>
  rename_i i x v xs vs'
  intro zs cs vs hr h
  unfold Jm at h
  split at h
  ·rename_i off size cs' hp hc
   cases hq:(Nat.beq cs'.length size && Nat.ble (off+size) zs.length) with
   |false=>simp [hq] at h
   |true=>
    simp only [hq,cond_true] at h
    simp only [Bool.and_eq_true] at hq
    have hcr:=Hw hx hc
    have h1:v.cells.size=size:=by have:=hcr.length;simp at this;rw [← this];exact Nat.eq_of_beq_eq_true hq.1
    have h2:off+size≤vs.length:=by rw [← hr.length];exact Nat.le_of_ble_eq_true hq.2
    obtain ⟨us,hu,hur⟩:=ih (Y8 hr hcr off) h
    refine ⟨us,?_,hur⟩
    unfold Instr.fill
    have hf:=Zp off v.cells vs.toArray (by simpa [h1] using h2)
    have hcond:(decide (v.cells.size≠size)||decide (off+v.cells.size>vs.toArray.size))=false:=by simp [h1];omega
    simp only [hp,hcond]
    simp only [Bool.false_eq_true,if_false]
    rw [hf]
    simpa using hu
  ·cases h
theorem O9:∀{l:List (Nat×Operand)},(∀p∈l,∀y,ρ p.2=some y→B9 c y (ev p.2))→∀{ys:List (Nat×AV)},Hp ρ l=some ys→kC c ys (l.map fun p=>(p.1,ev p.2))
 |[],_,ys,h=>by simp only [Hp,Option.some.injEq] at h;subst h;exact .nil
 |(i,x)::r,hρ,ys,h=>by
  unfold Hp at h
  cases h1:ρ x with
  |none=>simp [h1] at h
  |some v=>
   cases h2:Hp ρ r with
   |none=>simp [h1,h2] at h
   |some vs=>
    simp only [h1,h2,Option.some.injEq] at h
    subst h
    exact .cons (hρ (i,x) (by simp) v h1) (O9 (fun p hp=>hρ p (by simp [hp])) h2)
theorem run_places:∀{fs:List Field} {pl:List (Nat×Nat)},placesOf P fs=some pl→∀w,(fs.mapM fun f=>do pure (f.offset,← sizeOf f.type):Sem (List (Nat×Nat))).run P w=.ok pl w
 |[],pl,h,w=>by simp only [placesOf,Option.some.injEq] at h;subst h;simp
 |f::r,pl,h,w=>by
  unfold placesOf at h
  cases h1:D5 P f.type with
  |none=>simp [h1] at h
  |some k=>
   cases h2:placesOf P r with
   |none=>simp [h1,h2] at h
   |some l=>
    simp only [h1,h2,Option.some.injEq] at h
    subst h
    have:=run_places h2 w
    simp only [List.mapM_cons,Sem.run_bind,Ds h1,this,Result.andThen_ok,Sem.run_pure]
theorem kM {t:TypeId} {zs:List AV} (h:(Gy P t).bind Hc=some (.agg zs)) (c:Cx):∃z vs,Gy P t=some z∧z.cells=vs.toArray∧Cf c zs vs:=by
 obtain ⟨z,hz,hv⟩:=Option.bind_eq_some_iff.1 h
 have:=Ix hv c
 cases this with
 |agg hr=>rename_i vs;exact ⟨_,vs,hz,rfl,hr⟩
theorem kR (g:Good B c) {t:TypeId} {parts:Array (Nat×Operand)} (ho:o.op=.build t parts) (hρ:∀p∈parts.toList,∀y,ρ p.2=some y→B9 c y (ev p.2)) {ys:List (Nat×AV)} (hp:Hp ρ parts.toList=some ys) {v:AV} {d:Wr} (h:Zq P t ys=some (v,d)):Ge P B n c (execOp ev o) v d:=by
 have hpr:=O9 hρ hp
 have epl:(parts.map fun (i,x)=>(i,ev x)).toList=parts.toList.map fun p=>(p.1,ev p.2):=by simp
 unfold Zq at h
 split at h
 ·rename_i zs hz
  obtain ⟨z,vs,h1,h2,h3⟩:=kM hz c
  split at h
  ·rename_i fs hu
   split at h
   ·rename_i pl hpl
    obtain ⟨cs,hcs,he⟩:=Option.map_eq_some_iff.1 h
    simp only [Prod.mk.injEq] at he
    obtain ⟨rfl,rfl⟩:=he
    obtain ⟨us,hf,hr⟩:=Ru hpr h3 hcs
    refine .still g (v':=.agg us.toArray) ?_ (.agg hr)
    have hm:(fs.mapM fun f=>do pure (f.offset,← sizeOf f.type):Sem (Array (Nat×Nat))).run P c.w=.ok pl.toArray c.w:=by
     rw [Array.mapM_eq_mapM_toList,map_eq_pure_bind]
     have:=run_places hpl c.w
     simp only [Sem.run_bind,this,Result.andThen_ok,Sem.run_pure]
    simp only [execOp,ho,Instr.build,Sem.run_bind,Kd h1,Result.andThen_ok,run_underlying hu,hm,h2,epl]
    have:(fun i:Nat=>pl.toArray[i]?)=fun i:Nat=>pl[i]?:=by funext i;simp
    simp only [this,hf,Sem.run_pure,Result.andThen_ok]
   ·cases h
  ·rename_i len e hu
   split at h
   ·rename_i sz hs
    obtain ⟨cs,hcs,he⟩:=Option.map_eq_some_iff.1 h
    simp only [Prod.mk.injEq] at he
    obtain ⟨rfl,rfl⟩:=he
    obtain ⟨us,hf,hr⟩:=Ru hpr h3 hcs
    refine .still g (v':=.agg us.toArray) ?_ (.agg hr)
    simp only [execOp,ho,Instr.build,Sem.run_bind,Kd h1,Result.andThen_ok,run_underlying hu,Ds hs,h2,epl,hf,Sem.run_pure]
   ·cases h
  ·cases h
 ·cases h
theorem Nd (f:Nat→Value):(Array.range 0).map f=([]:List Value).toArray:=by apply Array.ext';simp
theorem Mg {zs:List AV} {vs:List Value} (h:Cf c zs vs):∀k,Cf c (rep zs k) (rep vs k)
 |0=> .nil
 |k+1=>h.append (Mg h k)
theorem Jf {α:Type} (zs:List α):∀k,(rep zs k).length=k*zs.length
 |0=>by simp [rep]
 |k+1=>by simp [rep,Jf zs k,Nat.succ_mul];omega
theorem eM {α:Type} (zs:List α) (hz:0<zs.length):∀(k i:Nat),i<k*zs.length→(rep zs k)[i]?=zs[i % zs.length]?
 |0,i,h=>by simp at h
 |k+1,i,h=>by
  rw [Nat.succ_mul] at h
  unfold rep
  by_cases hi:i<zs.length
  ·rw [List.getElem?_append_left hi,Nat.mod_eq_of_lt hi]
  ·rw [List.getElem?_append_right (by omega),eM zs hz k (i-zs.length) (by omega),Nat.mod_eq_sub_mod (by omega:zs.length≤i)]
theorem Oq (z:Array Value) (hz:0<z.size) (k:Nat):(Array.range (k*z.size)).map (z[· % z.size]!)=(rep z.toList k).toArray:=by
 apply Array.ext'
 apply List.ext_getElem?
 intro i
 have hl:=Jf z.toList k
 simp only [Array.toList_map,Array.toList_range,List.getElem?_map]
 by_cases hi:i<k*z.size
 ·have h2:=eM z.toList (by simpa using hz) k i (by simpa using hi)
  simp only [Array.length_toList] at h2
  rw [h2,List.getElem?_range hi]
  have hm:i % z.size<z.size:=Nat.mod_lt _ hz
  simp [hm]
 ·rw [List.getElem?_eq_none (by simpa using hi),List.getElem?_eq_none (by simp [hl];omega)];rfl
theorem Jr (z:Array Value) (hz:0<z.size) (k:Nat):(Builtin.zeroCells z k).toList=rep z.toList k:=by
 unfold Builtin.zeroCells;rw [Oq z hz k]
theorem Kr {e:TypeId} {zs:List AV} (h:(Gy P e).bind (fun z=>(Hc z).bind Dl)=some zs) (c:Cx):∃z,Gy P e=some z∧Cf c zs z.cells.toList:=by
 obtain ⟨z,hz,h⟩:=Option.bind_eq_some_iff.1 h
 obtain ⟨x,hx,h⟩:=Option.bind_eq_some_iff.1 h
 exact ⟨z,hz,Hw (Ix hx c) h⟩
theorem X6 {e:TypeId} {zs:List AV} (h:(Gy P e).bind aC=some zs) (c:Cx):∃z,Gy P e=some z∧Cf c zs z.cells.toList:=by
 obtain ⟨z,hz,h⟩:=Option.bind_eq_some_iff.1 h
 unfold aC at h
 split at h
 ·cases h;exact ⟨_,hz,Cf.one (.E9 _)⟩
 ·obtain ⟨x,hx,h⟩:=Option.bind_eq_some_iff.1 h
  exact ⟨z,hz,Hw (Ix hx c) h⟩
theorem Sc {arr:Array Value} {T:TypeId} {cells:List AV} {esz k cap cap':Nat} {ex:Bool} (hs:cap'*esz≤arr.size) (hk:k≤cap) (hc:cap≤cap') (he:ex=true→cap'=cap) (hm:cap'≤maxLen):
  B9 (c.new n arr T cells) (.sl n 0 esz k cap ex) (.slice (some ⟨c.w.heap.size,0,none⟩) k cap'):=by
 have h:(c.new n arr T cells).f n=c.w.heap.size:=by simp [Cx.new]
 have:=B9.sl (c:=c.new n arr T cells) (id:=n) (off:=0) (esz:=esz) (n:=k) (cap:=cap) (cap':=cap') (ex:=ex) (arr:=arr) (T:=T) (.inr rfl) (by rw [h];exact Q4 _ _) (by simpa using hs) hk hc he hm
 rwa [h] at this
theorem Ss (g:Good B c) (hn:¬c.al n) {t:TypeId} {len:Nat} {parts:Array (Nat×Operand)} (ho:o.op=.buildSlice t len parts) (hρ:∀p∈parts.toList,∀y,ρ p.2=some y→B9 c y (ev p.2)) {ys:List (Nat×AV)} (hp:Hp ρ parts.toList=some ys) {v:AV} {d:Wr} (h:Ll P n t len ys=some (v,d)):Ge P B n c (execOp ev o) v d:=by
 have hpr:=O9 hρ hp
 have epl:(parts.map fun (i,x)=>(i,ev x)).toList=parts.toList.map fun p=>(p.1,ev p.2):=by simp
 unfold Ll at h
 split at h
 ·rename_i e hu
  split at h
  ·rename_i sz zs hs hz
   cases hq:(Nat.ble (len*sz) 16777216 && Nat.beq zs.length sz && Nat.ble 1 sz) with
   |false=>simp [hq] at h
   |true=>
    simp only [hq,cond_true] at h
    simp only [Bool.and_eq_true] at hq
    obtain ⟨⟨q1,q2⟩,q3⟩:=hq
    have q1:=Nat.le_of_ble_eq_true q1
    have q2:=Nat.eq_of_beq_eq_true q2
    have q3:=Nat.le_of_ble_eq_true q3
    split at h
    ·rename_i cs hcs
     simp only [Option.some.injEq,Prod.mk.injEq] at h
     obtain ⟨rfl,rfl⟩:=h
     obtain ⟨z,hz1,hz2⟩:=X6 hz c
     have hzl:z.cells.size=sz:=by have:=hz2.length;simp at this;omega
     obtain ⟨us,hf,hr⟩:=Ru hpr (Mg hz2 len) hcs
     have hul:us.length=len*sz:=by
      have hal:∀{l:List (Nat×AV)} {a b:List AV},Jm (fun i=>some (i*sz,sz)) a l=some b→b.length=a.length:=by
       intro l
       induction l with
       |nil=>intro a b h;simp only [Jm,Option.some.injEq] at h;rw [h]
       |cons p r ih=>
        obtain ⟨i,x⟩:=p
        intro a b h
        unfold Jm at h
        split at h
        ·rename_i off size cs' hp hc
         cases hq:(Nat.beq cs'.length size && Nat.ble (off+size) a.length) with
         |false=>simp [hq] at h
         |true=>
          simp only [hq,cond_true] at h
          simp only [Bool.and_eq_true] at hq
          have e1:=Nat.eq_of_beq_eq_true hq.1
          have e2:=Nat.le_of_ble_eq_true hq.2
          rw [ih h];simp [Eg];omega
        ·cases h
      rw [← hr.length,hal hcs,Jf,q2]
     refine .made g hn (arr:=us.toArray) (rest:=[]) (by simp) hr ?_ (Sc (by simp [hul]) (Nat.le_refl _) (Nat.le_refl _) (fun _=>rfl) (by unfold maxLen;have:len≤len*sz:=Nat.le_mul_of_pos_right _ q3;omega))
     have hnot:¬(len*sz>2 ^ 24):=by omega
     simp only [execOp,ho,Instr.buildSlice,Sem.run_bind,run_underlying hu,Result.andThen_ok,Ds hs,hnot,if_false,Sem.run_pure]
     by_cases h0:len*sz=0
     ·have hl0:len=0:=by
       rcases Nat.mul_eq_zero.1 h0 with h|h
       ·exact h
       ·omega
      subst hl0
      simp only [rep] at hf
      simp only [Nat.zero_mul,if_true,Sem.run_bind,Sem.run_pure,Result.andThen_ok]
      have e0:(Array.range 0).map ((#[]:Array Value)[· % (#[]:Array Value).size]!)=([]:List Value).toArray:=Nd _
      rw [Nd,epl,hf]
      simp [newRow,newObj];rfl
     ·have hc:=Oq z.cells (by omega) len
      rw [hzl] at hc
      simp only [h0,if_false,Sem.run_bind,Kd hz1,Result.andThen_ok,Sem.run_pure,hzl,hc,epl,hf]
      simp [newRow,newObj];rfl
    ·cases h
  ·cases h
 ·cases h
theorem Wj (g:Good B c) (hn:¬c.al n) {t:TypeId} {l k:Operand} (ho:o.op=.makeSlice t l k) {x y v:AV} {d:Wr} (hx:B9 c x (ev l)) (hy:B9 c y (ev k)) (h:M3 P n t x y=some (v,d)):Ge P B n c (execOp ev o) v d:=by
 unfold M3 at h
 split at h
 ·rename_i x y
  have el:ev l=.int .i64 x:=by generalize ev l=u at hx;cases hx;rfl
  have ek:ev k=.int .i64 y:=by generalize ev k=u at hy;cases hy;rfl
  split at h
  ·rename_i e hu
   split at h
   ·rename_i sz by_ zs hs hb hz
    cases hq:(decide (0≤x) && decide (x≤y) && decide (y*(by_:Int)≤140737488355328) && decide (y≤4611686018427387904) && Nat.beq zs.length sz && Nat.ble 1 sz) with
    |false=>simp [hq] at h
    |true=>
     simp only [hq,cond_true,Option.some.injEq,Prod.mk.injEq] at h
     obtain ⟨rfl,rfl⟩:=h
     simp only [Bool.and_eq_true,decide_eq_true_eq] at hq
     obtain ⟨⟨⟨⟨⟨q1,q2⟩,q3⟩,q4⟩,q5⟩,q6⟩:=hq
     have q5:=Nat.eq_of_beq_eq_true q5
     have q6:=Nat.le_of_ble_eq_true q6
     obtain ⟨z,hz1,hz2⟩:=Kr hz c
     have hzl:z.cells.size=sz:=by have:=hz2.length;simp at this;omega
     obtain ⟨i,hi,hib⟩:=iA hb c.w
     have hc:=Oq z.cells (by omega) y.toNat
     rw [hzl] at hc
     have ww:∀a:Int,0≤a→a≤4611686018427387904→IntKind.i64.wrap a=a:=fun a h1 h2=>IntWalk.i64_in a (by omega)
     refine .made g hn (arr:=(rep z.cells.toList y.toNat).toArray) (vs:=rep z.cells.toList y.toNat) (rest:=[]) (by simp) (Mg hz2 _) ?_ (Sc (by simp [Jf,hzl]) (by omega) (Nat.le_refl _) (fun _=>rfl) (by unfold maxLen;omega))
     have t1:(decide (y<0)||decide ((by_:Int)*y>2 ^ 48))=false:=by
      rw [Int.mul_comm];simp;omega
     have t2:¬(y*(by_:Int)<0):=by have:=Int.mul_nonneg (by omega:0≤y) (by omega:0≤(by_:Int));omega
     simp only [execOp,ho,Instr.makeSlice,Sem.run_bind,run_underlying hu,Result.andThen_ok,el,ek,asInt,asIntOf,Sem.run_pure,hi,hib,ww x q1 (by omega),ww y (by omega) q4,t1]
     have c1:(false||decide (x<0)||decide (x>y))=false:=by simp;omega
     simp only [c1,Bool.false_eq_true,if_false,Sem.run_bind,Sem.run_pure,Result.andThen_ok,run_askRoom,Ds hs]
     by_cases h0:y.toNat*sz=0
     ·have hl0:y.toNat=0:=by
       rcases Nat.mul_eq_zero.1 h0 with h|h
       ·exact h
       ·omega
      simp only [hl0,Nat.zero_mul,if_true,Sem.run_pure,Result.andThen_ok,rep,Nd]
      simp [newRow,newObj];rfl
     ·simp only [h0,if_false,Sem.run_bind,Kd hz1,Result.andThen_ok,Sem.run_pure,hzl,hc]
      simp [newRow,newObj];rfl
   ·cases h
  ·cases h
 ·cases h
end
end Go.Proofs.YtmhnnmfcjdnlhaaGreatDoor
