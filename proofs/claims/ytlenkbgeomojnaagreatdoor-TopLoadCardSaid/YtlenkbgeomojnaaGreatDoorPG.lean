/- Library functions that change a slice of the run's own in place: a run over the one block alone, and what it is to the caller. -/
import Derived.Test.YtlenkbgeomojnaaGreatDoorPF
import Derived.KernelRfl
set_option linter.unusedVariables false
set_option linter.unusedSimpArgs false
namespace Go.Proofs.YtlenkbgeomojnaaGreatDoor
open Go.RowKit
section
variable {α:Type} {E:En α} {P:Program} {K:Cfg} {gl:Nat→Option (List AV)}
/- a slice of the run's own whose block may have room beyond it -/
def blkW (E:En α) (id:Nat) (l:List α):AV:=.sl id 0 E.size l.length l.length false
def MutO (E:En α) (ty:Nat) (l':List α) (u:AV) (m:Mem):Prop:=∃k cap ex rest,u=.sl k 0 E.size l'.length cap ex∧mget m k=some ⟨encs E l'++rest,ty⟩
def less (look:Nat→Option ABlk) (id:Nat):Nat→Option ABlk:=fun j=>bif Nat.beq j id then none else look j
def callN (P:Program) (gl:Nat→Option (List AV)) (m:Mem) (nx:Nat) (f:FuncId) (args:List AV) (R:AV→Mem→Prop):Prop:=
 Plainly P f∧∀(B:Nat) (c:Cx) (vals:List Value),Good B c→GlobOk gl c→(∀id,c.M id=mget m id)→(∀id,c.al id→id<nx)→Rels c args vals→Calls P f vals.toArray c.w (fun e w'=>∃v m' nx',R v m'∧CallPost B {c with al:=fun _=>False} v m' nx' e w')
theorem step_bare (c:Cx):Step {c with al:=fun _=>False} c:=⟨rfl,rfl,rfl,Nat.le_refl _,fun _ _ _=>rfl,fun _ _ h=>h,fun _ h=>h.elim,fun _ h=>h.elim,fun _=>Iff.rfl,fun b arr T h=>⟨arr,h,rfl⟩,Nat.le_refl _⟩
theorem callN_of_F (hm:P.follows .mixedOrders=true) {f:FuncId} {fn:Func} {code:Code} (hf:P.funcs[f]?=some fn) (hb:fn.body=some code) (hn:(fn.name== "runtime.NumGoroutine")=false) {args:List AV} (hl:Nat.ble args.length fn.ntmps=true) {m:Mem} {nx:Nat} {R:AV→Mem→Prop} {X:Prop}
  (hX:W P K fn.ntmps 0 code ⟨initEnv args 0,m,nx⟩ (retQ P fn R)=X) (h:X):callN P K.gl m nx f args R:=by
 have h:=hX.mpr h
 refine ⟨⟨fn,code,hf,hb,hn⟩,fun B c vals g gl hM ha hr=> ?_⟩
 have tri:Tri P K fn.ntmps 0 code ⟨initEnv args 0,m,nx⟩ (fun x s=>(x=.normal∨x=.ret)∧∃v,aResults P fn s=some v∧R v s.m):=(W_ok hm code _ _ h).mono fun x s hq=>by
  cases x with
  |normal=>
   simp only [retQ] at hq
   split at hq
   ·rename_i v hv;exact ⟨.inl rfl,v,hv,hq⟩
   ·exact hq.elim
  |ret=>
   simp only [retQ] at hq
   split at hq
   ·rename_i v hv;exact ⟨.inr rfl,v,hv,hq⟩
   ·exact hq.elim
  |exit i=>exact hq.elim
 have hl:=Nat.le_of_ble_eq_true hl
 refine calls_of_wp hf hb ?_
 have hlen:=hr.length
 have sr:SR K.gl B fn.ntmps c ⟨initEnv args 0,m,nx⟩ {tmps:=vals.toArray++Array.replicate (fn.ntmps-vals.toArray.size) undef,defers:=[]}:=by
  refine ⟨g,fun t=> ?_,hM,ha,by simp;omega,rfl,gl⟩
  simp only [eget_init,Nat.zero_le,if_true,Nat.sub_zero]
  rcases Nat.lt_or_ge t args.length with h|h
  ·obtain ⟨v,hv,hx⟩:=hr.get (k:=t) (x:=args[t]) (List.getElem?_eq_getElem h)
   have e1:args.getD t .und=args[t]:=by simp [List.getD_eq_getElem?_getD,h]
   rw [e1]
   have:(vals.toArray++Array.replicate (fn.ntmps-vals.toArray.size) undef).getD t undef=v:=by
    rw [Array.getD_eq_getD_getElem?,Array.getElem?_append_left (by simp;omega)]
    simp [hv]
   simp only [Act.eval,this]
   exact hx
  ·have e1:args.getD t .und=.und:=by simp [List.getD_eq_getElem?_getD,h]
   rw [e1];exact .und _
 refine wp_mono (tri B {c with al:=fun _=>False} c _ sr (step_bare c) (fun _ h=>h.elim)) ?_
 rintro ex a' w' ⟨x,s,c',rfl,⟨hx,v,hv,hR⟩,sr',rfl,st⟩
 obtain ⟨v',h1,h2⟩:=results_ok sr' hv
 have post:a'.defers=[]∧∃v,(results fn a'.tmps).run P c'.w=.ok v c'.w∧∃v_1 m' nx',R v_1 m'∧CallPost B {c with al:=fun _=>False} v_1 m' nx' (.returned v) c'.w:=
  ⟨sr'.df,v',h1,v,s.m,s.nx,hR,v',c',rfl,rfl,h2,st,sr'.g,sr'.m,sr'.al⟩
 rcases hx with rfl|rfl
 ·exact post
 ·exact post
/- Delete -/
def delO {α:Type} (by_:Nat) (l:List α) (i j:Int):Option (List α):=if 0≤i∧i<j∧j≤l.length∧l.length*by_≤140737488355328∧l.length≤4611686018427387904 then some (l.take i.toNat++l.drop j.toNat) else none
theorem opA_slice3 {t yt ty n e sz:Nat} {look:Nat→Option ABlk} (hu:P.underlying t=some (.slice e)) (hz:tsize P e=some sz) {id off esz k cap:Nat} {ex:Bool} {x y z:AV}:
  opA P (.slice t (.tmp 0) (some (.tmp 1)) (some (.tmp 2)) (some (.tmp 3))) ty [.sl id off esz k cap ex,x,y,z] look n=slcS sz (.sl id off esz k cap ex) (some x) (some y) (some z)∧opA P (.slice t (.tmp 0) none (some (.tmp 1)) none) ty [.sl id off esz k cap ex,x] look n=slcS sz (.sl id off esz k cap ex) none (some x) none∧opA P (.slice t (.tmp 0) (some (.tmp 1)) none none) ty [.sl id off esz k cap ex,x] look n=slcS sz (.sl id off esz k cap ex) (some x) none none∧opA P (.slice t (.tmp 0) (some (.tmp 1)) (some (.tmp 2)) none) ty [.sl id off esz k cap ex,x,y] look n=slcS sz (.sl id off esz k cap ex) (some x) (some y) none:=by
 refine ⟨?_,?_,?_,?_⟩<;>(simp [opA,aop,rhoV,aSlice,hu,hz,slcS];rfl)
theorem bnd_nat {d a:Nat}:bnd d (some (intA (a:Int)))=some a:=by rw [bnd_int (by omega),Int.toNat_natCast]
theorem slcS_sl {sz id off k cap lo hi mx:Nat} {ex:Bool} {x y z:Option AV} (hx:bnd 0 x=some lo) (hy:bnd k y=some hi) (hz:bnd cap z=some mx) (h1:lo≤hi) (h2:hi≤mx) (h3:mx≤cap) (hn:(z.isSome && y.isNone)=false):slcS sz (.sl id off sz k cap ex) x y z=some (bif Nat.beq lo mx then .lst 0 [] (ex||z.isSome) else .sl id (off+lo*sz) sz (hi-lo) (mx-lo) (ex||z.isSome),[]):=by
 unfold slcS
 simp only [hx,hy,hz,Nat.ble_eq_true_of_le h1,Nat.ble_eq_true_of_le h2,Nat.ble_eq_true_of_le h3,Nat.beq_refl,hn,Bool.and_self,Bool.not_false,cond_true]
 cases Nat.beq lo mx<;>rfl
theorem beq_ne {a b:Nat} (h:a≠b):Nat.beq a b=false:=by
 cases e:Nat.beq a b with
 |false=>rfl
 |true=>exact absurd (Nat.eq_of_beq_eq_true e) h
theorem rep_len {zs:List AV} {sz:Nat} (h:zs.length=sz):∀n,(rep zs n).length=n*sz
 |0=>by simp [rep]
 |n+1=>by rw [rep,List.length_append,rep_len h n,h,Nat.add_mul,Nat.one_mul,Nat.add_comm]
/- the block after the append, and after the rest is cleared -/
theorem app_sl {look:Nat→Option ABlk} {e sz by_ n id off k cap:Nat} {ex:Bool} {zs xs old:List AV} {m:Nat} {x:AV} {b:ABlk} (hx:cellsOf look sz x=some (m,xs)) (hm:m≠0) (ho:cellsOf look sz (.sl id off sz k cap ex)=some (k,old)) (hb:look id=some b) (hc:k+m≤cap) (hlen:off+(k+m)*sz≤b.cells.length) (hzs:zs.length=sz) (h1:1≤sz) (hxs:xs.length=m*sz) (hol:old.length=k*sz) (hcell:xs.all isCell=true) (hr1:(k+m)*by_≤140737488355328) (hr2:k+m≤4611686018427387904):
  app look e sz by_ zs n (.sl id off sz k cap ex) x=some (.sl id off sz (k+m) cap ex,[(id,some ⟨aput b.cells (off+k*sz) xs,b.ty⟩)]):=by
 unfold app
 simp only [hx,beq_ne hm,cond_false,ho,Nat.ble_eq_true_of_le hr1,Nat.ble_eq_true_of_le hr2,hzs,Nat.beq_refl,Nat.ble_eq_true_of_le h1,hcell,hxs,hol,Bool.true_or,Bool.and_self,cond_true,Nat.ble_eq_true_of_le hc,hb,Nat.ble_eq_true_of_le hlen]
/- a part of a slice of the run's own, to be read -/
def subV (E:En α) (id n lo k:Nat):AV:=bif Nat.beq lo n then .lst 0 [] false else .sl id (0+lo*E.size) E.size k (n-lo) false
/- functions that change their first argument in place, by extraction -/
def neO {α:Type} (l:List α):Option Unit:=match l with|[]=>none|_::_=>some ()
theorem mget_appW_e {m:Mem} {n id ty:Nat} {l xs:List α} (hx:xs≠[]) (h:n≠id):mget (mpushs m (appW E n id ty l xs)) n=ownB E ty (l++xs):=by
 cases xs with
 |nil=>exact absurd rfl hx
 |cons x xs=>exact mget_appW_n h
theorem neO_some {l:List α} {u:Unit} (h:neO l=some u):l≠[]:=by rintro rfl;cases h
def clrL {α:Type} (z:α) (l y:List α) (lo:Nat):List α:=l.take lo++List.replicate y.length z++l.drop (lo+y.length)
end
end Go.Proofs.YtlenkbgeomojnaaGreatDoor
