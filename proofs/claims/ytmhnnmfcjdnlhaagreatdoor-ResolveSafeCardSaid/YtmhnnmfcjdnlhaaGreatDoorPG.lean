/- A part. -/
import Derived.Test.YtmhnnmfcjdnlhaaGreatDoorPF
import Derived.KernelRfl
set_option linter.unusedVariables false
set_option linter.unusedSimpArgs false
namespace Go.Proofs.YtmhnnmfcjdnlhaaGreatDoor
open Go.RowKit
section
variable {α:Type} {E:En α} {P:Program} {K:Jz} {gl:Nat→Option (List AV)}
def uP (E:En α) (id:Nat) (l:List α):AV:=.sl id 0 E.size l.length l.length false
def U1 (E:En α) (ty:Nat) (l':List α) (u:AV) (m:Mem):Prop:=∃k cap ex rest,u=.sl k 0 E.size l'.length cap ex∧Am m k=some ⟨Bl E l'++rest,ty⟩
def less (look:Nat→Option B5) (id:Nat):Nat→Option B5:=fun j=>bif Nat.beq j id then none else look j
def Rb (P:Program) (gl:Nat→Option (List AV)) (m:Mem) (nx:Nat) (f:FuncId) (args:List AV) (R:AV→Mem→Prop):Prop:=
 G4 P f∧∀(B:Nat) (c:Cx) (vals:List Value),Good B c→Dr gl c→(∀id,c.M id=Am m id)→(∀id,c.al id→id<nx)→Cf c args vals→Calls P f vals.toArray c.w (fun e w'=>∃v m' nx',R v m'∧Hn B {c with al:=fun _=>False} v m' nx' e w')
theorem fG (c:Cx):Step {c with al:=fun _=>False} c:=⟨rfl,rfl,rfl,Nat.le_refl _,fun _ _ _=>rfl,fun _ _ h=>h,fun _ h=>h.elim,fun _ h=>h.elim,fun _=>Iff.rfl,fun b arr T h=>⟨arr,h,rfl⟩,Nat.le_refl _⟩
theorem Rm (hm:P.follows .mixedOrders=true) {f:FuncId} {fn:Func} {code:Code} (hf:P.funcs[f]?=some fn) (hb:fn.body=some code) (hn:(fn.name== "runtime.NumGoroutine")=false) {args:List AV} (hl:Nat.ble args.length fn.ntmps=true) {m:Mem} {nx:Nat} {R:AV→Mem→Prop} {X:Prop}
  (hX:W P K fn.ntmps 0 code ⟨Fa args 0,m,nx⟩ (C8 P fn R)=X) (h:X):Rb P K.gl m nx f args R:=by
 have h:=hX.mpr h
 refine ⟨⟨fn,code,hf,hb,hn⟩,fun B c vals g gl hM ha hr=> ?_⟩
 have tri:C6 P K fn.ntmps 0 code ⟨Fa args 0,m,nx⟩ (fun x s=>(x=.normal∨x=.ret)∧∃v,Fk P fn s=some v∧R v s.m):=(Uw hm code _ _ h).mono fun x s hq=>by
  cases x with
  |normal=>
   simp only [C8] at hq
   split at hq
   ·rename_i v hv;exact ⟨.inl rfl,v,hv,hq⟩
   ·exact hq.elim
  |ret=>
   simp only [C8] at hq
   split at hq
   ·rename_i v hv;exact ⟨.inr rfl,v,hv,hq⟩
   ·exact hq.elim
  |exit i=>exact hq.elim
 have hl:=Nat.le_of_ble_eq_true hl
 refine calls_of_wp hf hb ?_
 have hlen:=hr.length
 have sr:SR K.gl B fn.ntmps c ⟨Fa args 0,m,nx⟩ {tmps:=vals.toArray++Array.replicate (fn.ntmps-vals.toArray.size) undef,defers:=[]}:=by
  refine ⟨g,fun t=> ?_,hM,ha,by simp;omega,rfl,gl⟩
  simp only [O1,Nat.zero_le,if_true,Nat.sub_zero]
  rcases Nat.lt_or_ge t args.length with h|h
  ·obtain ⟨v,hv,hx⟩:=hr.get (k:=t) (x:=args[t]) (List.getElem?_eq_getElem h)
   have e1:args.getD t .E9=args[t]:=by simp [List.getD_eq_getElem?_getD,h]
   rw [e1]
   have:(vals.toArray++Array.replicate (fn.ntmps-vals.toArray.size) undef).getD t undef=v:=by
    rw [Array.getD_eq_getD_getElem?,Array.getElem?_append_left (by simp;omega)]
    simp [hv]
   simp only [Act.eval,this]
   exact hx
  ·have e1:args.getD t .E9=.E9:=by simp [List.getD_eq_getElem?_getD,h]
   rw [e1];exact .E9 _
 refine wp_mono (tri B {c with al:=fun _=>False} c _ sr (fG c) (fun _ h=>h.elim)) ?_
 rintro ex a' w' ⟨x,s,c',rfl,⟨hx,v,hv,hR⟩,sr',rfl,st⟩
 obtain ⟨v',h1,h2⟩:=Sp sr' hv
 have post:a'.defers=[]∧∃v,(results fn a'.tmps).run P c'.w=.ok v c'.w∧∃v_1 m' nx',R v_1 m'∧Hn B {c with al:=fun _=>False} v_1 m' nx' (.returned v) c'.w:=
  ⟨sr'.df,v',h1,v,s.m,s.nx,hR,v',c',rfl,rfl,h2,st,sr'.g,sr'.m,sr'.al⟩
 rcases hx with rfl|rfl
 ·exact post
 ·exact post
def Ain {α:Type} (by_:Nat) (l:List α) (i j:Int):Option (List α):=if 0≤i∧i<j∧j≤l.length∧l.length*by_≤140737488355328∧l.length≤4611686018427387904 then some (l.take i.toNat++l.drop j.toNat) else none
theorem Sm {t yt ty n e sz:Nat} {look:Nat→Option B5} (hu:P.underlying t=some (.slice e)) (hz:D5 P e=some sz) {id off esz k cap:Nat} {ex:Bool} {x y z:AV}:
  Cs P (.slice t (.tmp 0) (some (.tmp 1)) (some (.tmp 2)) (some (.tmp 3))) ty [.sl id off esz k cap ex,x,y,z] look n=O3 sz (.sl id off esz k cap ex) (some x) (some y) (some z)∧Cs P (.slice t (.tmp 0) none (some (.tmp 1)) none) ty [.sl id off esz k cap ex,x] look n=O3 sz (.sl id off esz k cap ex) none (some x) none∧Cs P (.slice t (.tmp 0) (some (.tmp 1)) none none) ty [.sl id off esz k cap ex,x] look n=O3 sz (.sl id off esz k cap ex) (some x) none none∧Cs P (.slice t (.tmp 0) (some (.tmp 1)) (some (.tmp 2)) none) ty [.sl id off esz k cap ex,x,y] look n=O3 sz (.sl id off esz k cap ex) (some x) (some y) none:=by
 refine ⟨?_,?_,?_,?_⟩<;>(simp [Cs,Nx,Jx,Rp,hu,hz,O3];rfl)
theorem H8 {d a:Nat}:Lz d (some (Aa (a:Int)))=some a:=by rw [qG (by omega),Int.toNat_natCast]
theorem Ho {sz id off k cap lo hi mx:Nat} {ex:Bool} {x y z:Option AV} (hx:Lz 0 x=some lo) (hy:Lz k y=some hi) (hz:Lz cap z=some mx) (h1:lo≤hi) (h2:hi≤mx) (h3:mx≤cap) (hn:(z.isSome && y.isNone)=false):O3 sz (.sl id off sz k cap ex) x y z=some (bif Nat.beq lo mx then .Ek 0 [] (ex||z.isSome) else .sl id (off+lo*sz) sz (hi-lo) (mx-lo) (ex||z.isSome),[]):=by
 unfold O3
 simp only [hx,hy,hz,Nat.ble_eq_true_of_le h1,Nat.ble_eq_true_of_le h2,Nat.ble_eq_true_of_le h3,Nat.beq_refl,hn,Bool.and_self,Bool.not_false,cond_true]
 cases Nat.beq lo mx<;>rfl
theorem Hj {a b:Nat} (h:a≠b):Nat.beq a b=false:=by
 cases e:Nat.beq a b with
 |false=>rfl
 |true=>exact absurd (Nat.eq_of_beq_eq_true e) h
theorem Vq {zs:List AV} {sz:Nat} (h:zs.length=sz):∀n,(rep zs n).length=n*sz
 |0=>by simp [rep]
 |n+1=>by rw [rep,List.length_append,Vq h n,h,Nat.add_mul,Nat.one_mul,Nat.add_comm]
theorem yX {look:Nat→Option B5} {e sz by_ n id off k cap:Nat} {ex:Bool} {zs xs old:List AV} {m:Nat} {x:AV} {b:B5} (hx:cellsOf look sz x=some (m,xs)) (hm:m≠0) (ho:cellsOf look sz (.sl id off sz k cap ex)=some (k,old)) (hb:look id=some b) (hc:k+m≤cap) (hlen:off+(k+m)*sz≤b.cells.length) (hzs:zs.length=sz) (h1:1≤sz) (hxs:xs.length=m*sz) (hol:old.length=k*sz) (hcell:xs.all Cq=true) (hr1:(k+m)*by_≤140737488355328) (hr2:k+m≤4611686018427387904):
  app look e sz by_ zs n (.sl id off sz k cap ex) x=some (.sl id off sz (k+m) cap ex,[(id,some ⟨Eg b.cells (off+k*sz) xs,b.ty⟩)]):=by
 unfold app
 simp only [hx,Hj hm,cond_false,ho,Nat.ble_eq_true_of_le hr1,Nat.ble_eq_true_of_le hr2,hzs,Nat.beq_refl,Nat.ble_eq_true_of_le h1,hcell,hxs,hol,Bool.true_or,Bool.and_self,cond_true,Nat.ble_eq_true_of_le hc,hb,Nat.ble_eq_true_of_le hlen]
theorem o9 {look:Nat→Option B5} {e sz by_ n id off k cap:Nat} {ex:Bool} {zs xs old:List AV} {m:Nat} {x:AV} {b:B5} (hx:cellsOf look sz x=some (m,xs)) (hm:m≠0) (ho:cellsOf look sz (.sl id off sz k cap ex)=some (k,old)) (hb:look id=some b) (hc:k+m≤cap) (hlen:off+(k+m)*sz≤b.cells.length) (hzs:zs.length=sz) (h1:1≤sz) (hxs:xs.length=m*sz) (hol:old.length=k*sz) (hcell:xs.all Cq=true) (hr2:k+m≤4611686018427387904):
  app look e sz by_ zs n (.sl id off sz k cap ex) x=some (.sl id off sz (k+m) cap ex,[(id,some ⟨Eg b.cells (off+k*sz) xs,b.ty⟩)]):=by
 unfold app
 simp only [hx,Hj hm,cond_false,ho,Yx,Bool.or_true,Nat.ble_eq_true_of_le hr2,hzs,Nat.beq_refl,Nat.ble_eq_true_of_le h1,hcell,hxs,hol,Bool.and_self,cond_true,Nat.ble_eq_true_of_le hc,hb,Nat.ble_eq_true_of_le hlen]
def Aig (E:En α) (id n lo k:Nat):AV:=bif Nat.beq lo n then .Ek 0 [] false else .sl id (0+lo*E.size) E.size k (n-lo) false
def neO {α:Type} (l:List α):Option Unit:=match l with|[]=>none|_::_=>some ()
theorem P3 {m:Mem} {n id ty:Nat} {l xs:List α} (hx:xs≠[]) (h:n≠id):Am (Ag m (Jy E n id ty l xs)) n=C7 E ty (l++xs):=by
 cases xs with
 |nil=>exact absurd rfl hx
 |cons x xs=>exact Lb h
def Ah3 {α:Type} (z:α) (l y:List α) (lo:Nat):List α:=l.take lo++List.replicate y.length z++l.drop (lo+y.length)
theorem lB {n:Nat} {cs:List AV}:Zj (.Ek n cs true) (.Ek n cs false):=by
 intro c v h
 cases h with
 |Ga a cap ex he hm hn=>exact .Ga a cap false (fun h=>by cases h) hm hn
 |Ek hb h hc hn he hm=>exact .Ek hb h hc hn (fun h=>by cases h) hm
end
end Go.Proofs.YtmhnnmfcjdnlhaaGreatDoor
