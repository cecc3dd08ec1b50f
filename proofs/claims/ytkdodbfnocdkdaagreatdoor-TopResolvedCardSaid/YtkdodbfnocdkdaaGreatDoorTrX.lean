/- Parts Reads, Pi23, TrG. -/
import Derived.Test.YtkdodbfnocdkdaaGreatDoorBase
import Derived.ProofKit
import Derived.OpenShut
import Derived.SizedLaws
import Derived.Deep.Slices
import Derived.Test.YtkdodbfnocdkdaaGreatDoorPD
import Derived.Test.YtkdodbfnocdkdaaGreatDoorX1T
import Derived.Test.YtkdodbfnocdkdaaGreatDoorPJ
import Derived.Test.YtkdodbfnocdkdaaGreatDoorRows
import Derived.LaidMore
import Derived.Lib.LaidTab
set_option linter.unusedVariables false
set_option linter.unusedSimpArgs false
namespace Go.Proofs.YtkdodbfnocdkdaaGreatDoor
open Go.RowKit Go.ChangeShapes Go.WideShapes Go.ChangeAt
inductive Sh where
 |unit|int|bool|str
 |sl (e:Sh)
 |pair (a b:Sh)
def Sh.size:Sh→Nat
 |.unit=>0
 |.int=>1
 |.bool=>1
 |.str=>1
 |.sl _=>1
 |.pair a b=>a.size+b.size
def Reads (W:World):Sh→List Value→Prop
 |.unit,cs=>cs=[]
 |.int,cs=>∃n:Int,cs=[.int .i64 n]∧-9223372036854775808≤n∧n≤9223372036854775807
 |.bool,cs=>∃b:Bool,cs=[.bool b]
 |.str,cs=>∃s:ByteArray,cs=[.string s]∧s.size≤maxLen
 |.sl e,cs=>∃(a:Option Addr) (n c:Nat),cs=[.slice a n c]∧n≤c∧c≤maxLen∧(a=none→c=0)∧
   (0<n→0<e.size→∃b off,a=some ⟨b,off,none⟩∧b<W.heap.size∧∀i,i<n→∃es:List Value,es.length=e.size∧(∀j,j<e.size→W.cell? ⟨b,off+(i*e.size+j),none⟩=es[j]?)∧Reads W e es)
 |.pair x y,cs=>∃xs ys,cs=xs++ys∧Reads W x xs∧Reads W y ys
mutual
def fits (P:Program):Nat→Sh→TypeId→Bool
 |0,_,_=>false
 |n+1,sh,t=>
  match P.underlying t,sh with
  |some (.int .i64),.int=>true
  |some .bool,.bool=>true
  |some .string,.str=>true
  |some (.slice e),.sl x=>fits P n x e && P.cellsOf e==x.size
  |some (.struct fs),x=>Ow P n x fs.toList 0 && P.cellsOf t==x.size
  |some (.array k e),x=>Ow P n x ((List.range k).map fun i=>({(default:Field) with type:=e,offset:=i*P.cellsOf e}:Field)) 0 && P.cellsOf t==x.size
  |_,_=>false
def Ow (P:Program):Nat→Sh→List Field→Nat→Bool
 |0,_,_,_=>false
 |n+1,sh,fs,off=>
  match sh,fs with
  |.unit,[]=>true
  |.pair a b,f::r=>fits P n a f.type && f.offset==off && P.cellsOf f.type==a.size && Ow P n b r (off+a.size)
  |_,_=>false
end
theorem wf_i64 {n:Int} (h:(Lit.int .i64 n).wf=true): -9223372036854775808≤n∧n≤9223372036854775807:=by
 simp [Lit.wf,IntKind.has,IntKind.min,IntKind.max,IntKind.signed,IntKind.bits] at h
 omega
theorem n9 {H:Type} {enc:TypeId×Value→H} {P:Program} {W:World} {sp:Nat→Bool} {held:Bool}:∀(n:Nat),
  (∀(sh:Sh) (t:TypeId) (fuel:Nat) (cs:List Value) (x:DataW H×List MemPlace),fits P n sh t=true→DataW.trod enc P W 0 sp held fuel t cs=some x→Reads W sh cs∧cs.length=sh.size)∧
  (∀(sh:Sh) (fs:List Field) (off fuel:Nat) (cs:List Value) (xs:List (DataW H×List MemPlace)),Ow P n sh fs off=true→cs.length=off+sh.size→
   (∀(i:Nat) (f:Field),fs[i]?=some f→DataW.trod enc P W 0 sp held fuel f.type ((cs.drop f.offset).take (P.cellsOf f.type))=xs[i]?)→xs.length=fs.length→Reads W sh (cs.drop off)):=by
 intro n
 induction n with
 |zero=>exact ⟨fun sh t fuel cs x h=>by simp [fits] at h,fun sh fs off fuel cs xs h=>by simp [Ow] at h⟩
 |succ n ih=>
  obtain ⟨ih1,ih2⟩:=ih
  refine ⟨?_,?_⟩
  ·intro sh t fuel cs x h hx
   unfold fits at h
   split at h
   ·rename_i hu
    obtain ⟨m,rfl,-,hw⟩:=DataW.trod_int hu hx
    exact ⟨⟨m,rfl,wf_i64 hw⟩,rfl⟩
   ·rename_i hu
    obtain ⟨b,rfl,-⟩:=DataW.trod_bool hu hx
    exact ⟨⟨b,rfl⟩,rfl⟩
   ·rename_i hu
    obtain ⟨s,rfl,-,hs⟩:=DataW.trod_string hu hx
    exact ⟨⟨s,rfl,hs⟩,rfl⟩
   ·rename_i e y hu
    simp only [Bool.and_eq_true,beq_iff_eq] at h
    obtain ⟨h1,h2⟩:=h
    rcases Deep.open_slice hu hx with ⟨rfl,-⟩|⟨a,len,cap,m,k,D,Pl,rfl,-,hl,hm,hmm,-,hi⟩
    ·exact ⟨⟨none,0,0,rfl,Nat.le_refl _,Nat.zero_le _,fun _=>rfl,fun h=>absurd h (by omega)⟩,rfl⟩
    ·refine ⟨⟨some a,len,cap,rfl,hl,hm,(fun h=>by cases h),fun hn hsz=> ?_⟩,rfl⟩
     have hlm:len≤m:=by rw [hmm];split<;>omega
     rw [h2] at hi
     have hspot:a.spot=none∧a.block<W.heap.size:=by
      obtain ⟨es,hes,-⟩:=hi 0 (by omega)
      obtain ⟨-,hel,hat⟩:=World.cells?_some hes
      have hc:=hat 0 hsz
      have h0:(a.add (0*y.size)).add 0=a:=by simp [Addr.add]
      rw [h0,List.getElem?_eq_getElem (by omega)] at hc
      exact ⟨by simpa using World.cell?_spot hc,by simpa using World.block_lt_of_cell? W _ hc⟩
     obtain ⟨b,off,s⟩:=a
     obtain ⟨hs,hb⟩:=hspot
     simp only at hs hb
     subst hs
     refine ⟨b,off,rfl,hb,fun i hin=> ?_⟩
     obtain ⟨es,hes,ht⟩:=hi i (by omega)
     obtain ⟨-,hel,hat⟩:=World.cells?_some hes
     refine ⟨es,hel,fun j hj=> ?_,(ih1 y e k es _ h1 ht).1⟩
     rw [← hat j hj,addr_add,addr_add,Nat.add_assoc]
   ·rename_i y fs hu
    simp only [Bool.and_eq_true,beq_iff_eq] at h
    obtain ⟨h1,h2⟩:=h
    obtain ⟨xs,m,-,-,hlen,hxl,hf⟩:=DataW.trod_struct hu hx
    rw [h2] at hlen
    refine ⟨?_,hlen⟩
    have:=ih2 _ fs.toList 0 m cs xs h1 (by rw [hlen];omega) (fun i f hif=>hf i f (by simpa using hif)) (by simpa using hxl)
    simpa using this
   ·rename_i y len e hu
    simp only [Bool.and_eq_true,beq_iff_eq] at h
    obtain ⟨h1,h2⟩:=h
    obtain ⟨xs,m,-,-,hlen,hxl,hf⟩:=DataW.trod_array hu hx
    rw [h2] at hlen
    refine ⟨?_,hlen⟩
    have:=ih2 _ _ 0 m cs xs h1 (by rw [hlen];omega) (fun i f hif=>by
     rw [List.getElem?_map] at hif
     cases hr:(List.range len)[i]? with
     |none=>rw [hr] at hif;cases hif
     |some q=>
      rw [hr] at hif
      have hi:i<len:=by
       rcases Nat.lt_or_ge i len with h|h
       ·exact h
       ·rw [List.getElem?_eq_none (by simpa using h)] at hr;cases hr
      rw [List.getElem?_range hi] at hr
      cases hr
      cases hif
      exact hf i hi) (by simpa using hxl)
    simpa using this
   ·cases h
  ·intro sh fs off fuel cs xs h hlen hf hxl
   unfold Ow at h
   split at h
   ·simp [Sh.size] at hlen
    simp [Reads,← hlen]
   ·rename_i a b f r
    simp only [Bool.and_eq_true,beq_iff_eq] at h
    obtain ⟨⟨⟨h1,h2⟩,h3⟩,h4⟩:=h
    have h0:=hf 0 f rfl
    rw [h2,h3] at h0
    simp [Sh.size] at hlen
    cases xs with
    |nil=>simp at hxl
    |cons x0 xr=>
     have hra:=ih1 a f.type fuel _ x0 h1 (by simpa using h0)
     refine ⟨(cs.drop off).take a.size,cs.drop (off+a.size),?_,hra.1,?_⟩
     ·rw [← List.drop_drop];exact (List.take_append_drop _ _).symm
     ·exact ih2 b r (off+a.size) fuel cs xr h4 (by omega) (fun i f' hi=>by simpa using hf (i+1) f' (by simpa using hi)) (by simpa using hxl)
   ·cases h
theorem Sr {H:Type} {enc:TypeId×Value→H} {P:Program} {W:World} {sp:Nat→Bool} {held:Bool} {t:TypeId} {v:Value} {d:DataW H} {p:List MemPlace} (sh:Sh) (hf:fits P 40 sh t=true) (h:DataW.Trod enc P W 0 sp held t v d p):Reads W sh v.cells.toList:=by
 obtain ⟨fuel,hx⟩:=h
 exact ((n9 40).1 sh t fuel _ _ hf hx).1
end Go.Proofs.YtkdodbfnocdkdaaGreatDoor
set_option linter.unusedVariables false
set_option linter.unusedSimpArgs false
namespace Go.Proofs.YtkdodbfnocdkdaaGreatDoor
open Go.RowKit
def Rh (W:World):Cx:=⟨W,fun _=>0,fun _=>False,fun _=>none,fun _=>False⟩
theorem kN {W:World} {b:Nat}:¬(Rh W).own b:=fun ⟨_,_,h,_⟩=>by simp [Rh] at h
theorem Hs {W:World} {b:Nat} (h:b<W.heap.size):(Rh W).Bx b:=⟨h,kN,fun h=>h⟩
theorem uJ (W:World):Good W.heap.size (Rh W):=⟨Nat.le_refl _,fun _ _ h=>by simp [Rh] at h,fun _ _ h=>by simp [Rh] at h,fun _ h=>h.elim,fun _ _ _ _ h=>by simp [Rh] at h⟩
theorem Wg {P:Program} {gl:Nat→Option (List AV)} {f:FuncId} {args:List AV} {b:Bool} (h:Ci P gl f args (.sc (.bool b))) {W:World} (hgl:Cw gl (Rh W)) {vals:List Value} (hr:Bm (Rh W) args vals):
  Calls P f vals.toArray W (fun e w'=>e=.returned (.bool b)∧Below W.heap.size W w'):=by
 refine (h.2.2.2 W.heap.size (Rh W) vals (uJ W) hgl (fun _ _ h=>by cases h) hr).mono ?_
 rintro e w' ⟨v',c',rfl,rfl,h1,h2,-⟩
 cases h1
 exact ⟨rfl,h2.os,h2.tape,h2.output,h2.size,fun k hk=>h2.By k hk kN⟩
theorem Xt {W:World} {α:Type} (E:En α) (e:Sh) (P:α→Prop) (hsz:e.size=E.size) {a:Option Addr} {n cap:Nat} (hq:∀es,es.length=e.size→Reads W e es→∃x,Bm (Rh W) (E.enc x) es∧P x) (h:Reads W (.sl e) [.slice a n cap]):
  ∃l:List α,Bo (Rh W) (Ar E l) (.slice a n cap)∧l.length≤maxLen∧∀x∈l,P x:=by
 unfold Reads at h
 obtain ⟨a',n',c',he,h1,h2,h3,h4⟩:=h
 simp only [List.cons.injEq,Value.slice.injEq,and_true] at he
 obtain ⟨rfl,rfl,rfl⟩:=he
 have hp:=E.pos
 rcases Nat.eq_zero_or_pos n with h0|h0
 ·subst h0
  exact ⟨[],.Gd a cap false (fun h=>by cases h) h2 h3,Nat.zero_le _,fun x hx=>by simp at hx⟩
 ·obtain ⟨b,off,rfl,hb,hi⟩:=h4 h0 (by omega)
  have key:∀k,k≤n→∃(l:List α) (vs:List Value),l.length=k∧vs.length=k*E.size∧Bm (Rh W) (A0 E l) vs∧Iv W b off vs∧∀x∈l,P x:=by
   intro k
   induction k with
   |zero=>intro _;exact ⟨[],[],rfl,by simp,.nil,fun k v h=>by simp at h,fun x hx=>by simp at hx⟩
   |succ k ih=>
    intro hk
    obtain ⟨l,vs,q1,q2,q3,q4,q5⟩:=ih (by omega)
    obtain ⟨es,e1,e2,e3⟩:=hi k (by omega)
    obtain ⟨x,hx,hpx⟩:=hq es e1 e3
    refine ⟨l++[x],vs++es,by simp [q1],by rw [List.length_append,q2,e1,hsz,Nat.add_mul];omega,?_,?_,?_⟩
    ·rw [Ds,tG];exact q3.append hx
    ·intro j v hv
     rcases Nat.lt_or_ge j vs.length with hj|hj
     ·rw [List.getElem?_append_left hj] at hv;exact q4 j v hv
     ·rw [List.getElem?_append_right hj] at hv
      have hlt:j-vs.length<es.length:=by
       rcases Nat.lt_or_ge (j-vs.length) es.length with h|h
       ·exact h
       ·rw [List.getElem?_eq_none h] at hv;cases hv
      have:=e2 (j-vs.length) (by omega)
      rw [hv] at this
      rw [← this]
      congr 2
      rw [hsz] at*
      omega
    ·intro y hy
     rcases List.mem_append.1 hy with hy|hy
     ·exact q5 y hy
     ·simp at hy;subst hy;exact hpx
  obtain ⟨l,vs,q1,q2,q3,q4,q5⟩:=key n (Nat.le_refl _)
  refine ⟨l,?_,by omega,q5⟩
  subst q1
  exact .Ec (c:=Rh W) (Hs hb) q3 q4 h1 (fun h=>by cases h) h2
theorem D5 {c:Cx} {v:Value} (hv:Nx v=true) {xs:List AV} {vs:List Value} (h:Bm c xs vs):Bm c (.sc v::xs) (v::vs):=.cons (.sc v hv) h
end Go.Proofs.YtkdodbfnocdkdaaGreatDoor
set_option linter.unusedVariables false
set_option linter.unusedSimpArgs false
namespace Go.Proofs.YtkdodbfnocdkdaaGreatDoor
open Go.ChangeShapes Go.WideShapes Go.ChangeAt Go.RowKit
def S6:List (String×DataW Unit):=[("math/bits.deBruijn32tab",Rows.laid_math_bits_deBruijn32tab),("math/bits.deBruijn64tab",Rows.laid_math_bits_deBruijn64tab),("internal/strconv.uint64pow10",Rows.laid_internal_strconv_uint64pow10),("unicode/utf8.acceptRanges",Rows.laid_unicode_utf8_acceptRanges),("math._sin",Rows.laid_math_sin),("math._cos",Rows.laid_math_cos),("math.mPi4",Rows.laid_math_mPi4),("strconv.ErrRange",Rows.laid_strconv_ErrRange),("strconv.ErrSyntax",Rows.laid_strconv_ErrSyntax),("skyway/phrase.words",Rows.laid_skyway_phrase_words),("skyway/phrase.most",Rows.laid_skyway_phrase_most),("unicode/utf8.first",Rows.laid_unicode_utf8_first)]
theorem Agz:Tryz.prog.globalNamed "skyway/phrase.words" =some 1:=by kernel_rfl
theorem Ane:Tryz.prog.globalNamed "skyway/phrase.most" =some 0:=by kernel_rfl
theorem Ajw:(Tryz.prog.globals[1]?).map (·.type)=some 240:=by kernel_rfl
theorem Apr:(Tryz.prog.globals[0]?).map (·.type)=some 239:=by kernel_rfl
theorem Ah6:Tryz.prog.globalNamed "internal/strconv.uint64pow10" =some 6:=by kernel_rfl
theorem Asa:(Tryz.prog.globals[6]?).map (·.type)=some 412:=by kernel_rfl
theorem Als:Tryz.prog.cellsOf 9=1:=by kernel_rfl
theorem Ape:Tryz.prog.cellsOf 3=1:=by kernel_rfl
theorem Ae1 {H:Type} {enc:TypeId×Value→H} {P:Program} {W:World} {base fuel n:Nat} {sp:Nat→Bool} {held:Bool} {t e:TypeId} {cs:List Value} {l:List (List UInt8)} {p:List MemPlace} (hu:P.underlying t=some (.array n e)) (he:P.underlying e=some .string) (hc:P.cellsOf e=1) (h:DataW.trod enc P W base sp held fuel t cs=some (.agg (l.map fun b=> .lit (.string b)),p)):∀(k:Nat) (b:List UInt8),l[k]?=some b→cs[k]?=some (.string ⟨b.toArray⟩):=by
 obtain ⟨xs,m,-,hx,-,hn,hel⟩:=DataW.trod_array hu h
 intro k b hk
 simp only [Prod.mk.injEq,DataW.agg.injEq] at hx
 have hxk:(xs.map (·.1))[k]?=some (.lit (.string b)):=by rw [← hx.1,List.getElem?_map,hk];rfl
 rw [List.getElem?_map] at hxk
 obtain ⟨x,hx1,hx2⟩:=Option.map_eq_some_iff.1 hxk
 have hkn:k<n:=by
  rw [← hn]
  rcases Nat.lt_or_ge k xs.length with h|h
  ·exact h
  ·rw [List.getElem?_eq_none h] at hx1;cases hx1
 have h1:=hel k hkn
 rw [hx1] at h1
 obtain ⟨s,e1,e2,-⟩:=DataW.trod_string he h1
 rw [e2] at hx2
 have hb:s.data.toList=b:=by simpa using hx2
 rw [hc,Nat.mul_one] at e1
 have:cs[k]?=some (.string s):=by
  have:=congrArg (fun q=>q[0]?) e1
  simpa [List.getElem?_take,List.getElem?_drop] using this
 rw [this,← hb]
theorem Ac8 {H:Type} {enc:TypeId×Value→H} {P:Program} {W:World} {base fuel n:Nat} {sp:Nat→Bool} {held:Bool} {t e:TypeId} {cs:List Value} {l:List Int} {p:List MemPlace} (hu:P.underlying t=some (.array n e)) (he:P.underlying e=some (.int .i64)) (hc:P.cellsOf e=1) (h:DataW.trod enc P W base sp held fuel t cs=some (.agg (l.map fun b=> .lit (.int .i64 b)),p)):∀(k:Nat) (b:Int),l[k]?=some b→cs[k]?=some (.int .i64 b):=by
 obtain ⟨xs,m,-,hx,-,hn,hel⟩:=DataW.trod_array hu h
 intro k b hk
 simp only [Prod.mk.injEq,DataW.agg.injEq] at hx
 have hxk:(xs.map (·.1))[k]?=some (.lit (.int .i64 b)):=by rw [← hx.1,List.getElem?_map,hk];rfl
 rw [List.getElem?_map] at hxk
 obtain ⟨x,hx1,hx2⟩:=Option.map_eq_some_iff.1 hxk
 have hkn:k<n:=by
  rw [← hn]
  rcases Nat.lt_or_ge k xs.length with h|h
  ·exact h
  ·rw [List.getElem?_eq_none h] at hx1;cases hx1
 have h1:=hel k hkn
 rw [hx1] at h1
 obtain ⟨s,e1,e2,-⟩:=DataW.trod_int he h1
 rw [e2] at hx2
 have hb:s=b:=by simpa using hx2
 rw [hc,Nat.mul_one] at e1
 have:cs[k]?=some (.int .i64 s):=by
  have:=congrArg (fun q=>q[0]?) e1
  simpa [List.getElem?_take,List.getElem?_drop] using this
 rw [this,hb]
theorem sX {H:Type} {enc:TypeId×Value→H} {P:Program} {w:World} {base fuel:Nat} {spare:Nat→Bool} {held:Bool} {t:TypeId} {cs:List Value} {x:DataW H×List MemPlace} {k:FloatKind} (ht:P.underlying t=some (.float k)) (h:DataW.trod enc P w base spare held fuel t cs=some x):∃n,cs=[.float k n]∧x=(.lit (.float k n),[])∧(Lit.float k n).wf=true:=by
 cases fuel with
 |zero=>simp [DataW.trod] at h
 |succ n=>
  unfold DataW.trod at h
  rw [ht] at h
  split at h<;>simp_all
theorem kW {H:Type} {enc:TypeId×Value→H} {P:Program} {W:World} {base fuel n:Nat} {sp:Nat→Bool} {held:Bool} {t e:TypeId} {cs:List Value} {l:List Nat} {p:List MemPlace} (hu:P.underlying t=some (.array n e)) (he:P.underlying e=some (.float .f64)) (hc:P.cellsOf e=1) (h:DataW.trod enc P W base sp held fuel t cs=some (.agg (l.map fun b=> .lit (.float .f64 b)),p)):∀(k:Nat) (b:Nat),l[k]?=some b→cs[k]?=some (.float .f64 b):=by
 obtain ⟨xs,m,-,hx,-,hn,hel⟩:=DataW.trod_array hu h
 intro k b hk
 simp only [Prod.mk.injEq,DataW.agg.injEq] at hx
 have hxk:(xs.map (·.1))[k]?=some (.lit (.float .f64 b)):=by rw [← hx.1,List.getElem?_map,hk];rfl
 rw [List.getElem?_map] at hxk
 obtain ⟨x,hx1,hx2⟩:=Option.map_eq_some_iff.1 hxk
 have hkn:k<n:=by
  rw [← hn]
  rcases Nat.lt_or_ge k xs.length with h|h
  ·exact h
  ·rw [List.getElem?_eq_none h] at hx1;cases hx1
 have h1:=hel k hkn
 rw [hx1] at h1
 obtain ⟨s,e1,e2,-⟩:=sX he h1
 rw [e2] at hx2
 have hb:s=b:=by simpa using hx2
 rw [hc,Nat.mul_one] at e1
 have:cs[k]?=some (.float .f64 s):=by
  have:=congrArg (fun q=>q[0]?) e1
  simpa [List.getElem?_take,List.getElem?_drop] using this
 rw [this,hb]
def Abk:List Nat:=[4460209587652500685,13716528389658582877,4523617212962785441,13774824197404483331,4575957461383575504,13818544856648471880]
def Adn:List Nat:=[13666448263388469915,4477121864728985349,13732177093698800582,4537941361668146421,13787419979223748497,4586165620538955083]
theorem Aq9:Tryz.prog.globalNamed "math._sin" =some 10:=by kernel_rfl
theorem Asj:Tryz.prog.globalNamed "math._cos" =some 9:=by kernel_rfl
theorem Asn:(Tryz.prog.globals[10]?).map (·.type)=some 432:=by kernel_rfl
theorem As4:(Tryz.prog.globals[9]?).map (·.type)=some 432:=by kernel_rfl
theorem Ao6:Tryz.prog.underlying 432=some (.array 6 345):=by kernel_rfl
theorem u_f:Tryz.prog.underlying 345=some (.float .f64):=by kernel_rfl
theorem Agb:Tryz.prog.cellsOf 345=1:=by kernel_rfl
def Zo:List (List UInt8):=[[72,69,73,71,72,84],[72,69,65,68,73,78,71],[83,80,69,69,68],[68,73,82,69,67,84],[72,79,76,68],[67,79,78,84,65,67,84],[76,65,78,68]]
def kM:List Int:=[60000,4095,400]
def sE:List Int:=[1,10,100,1000,10000,100000,1000000,10000000,100000000,1000000000,10000000000,100000000000,1000000000000,10000000000000,100000000000000,1000000000000000,10000000000000000,100000000000000000,1000000000000000000,10000000000000000000]
theorem Adm {W:World} (h:laidMetH Tryz.prog S6 W):W.var? Tryz.prog "internal/strconv.uint64pow10" =some (sE.map fun z=>Value.int .u64 z).toArray∧(∀(k:Nat) (b:List UInt8),Zo[k]?=some b→W.cell? ⟨1,k,none⟩=some (.string ⟨b.toArray⟩))∧(∀(k:Nat) (b:Int),kM[k]?=some b→W.cell? ⟨0,k,none⟩=some (.int .i64 b))∧(∀(k:Nat) (b:Nat),Abk[k]?=some b→W.cell? ⟨10,k,none⟩=some (.float .f64 b))∧∀(k:Nat) (b:Nat),Adn[k]?=some b→W.cell? ⟨9,k,none⟩=some (.float .f64 b):=by
 rw [MakeChecks.laidMetH_plain _ _ _ (by kernel_rfl)] at h
 obtain ⟨ps,⟨-,-,-,-,-,-,-,-,-,-,⟨-,-,-,-,-,-,-,-,-,-,⟨g4,t4,cs4,f4,p4,q4,hg4,ht4,hv4,hd4,⟨-,-,-,-,-,-,-,-,-,-,⟨g2,t2,cs2,f2,p2,q2,hg2,ht2,hv2,hd2,⟨g3,t3,cs3,f3,p3,q3,hg3,ht3,hv3,hd3,⟨-,-,-,-,-,-,-,-,-,-,⟨-,-,-,-,-,-,-,-,-,-,⟨-,-,-,-,-,-,-,-,-,-,⟨g0,t0,cs0,f0,p0,q0,hg0,ht0,hv0,hd0,⟨g1,t1,cs1,f1,p1,q1,hg1,ht1,hv1,hd1,_,_⟩,_⟩,_⟩,_⟩,_⟩,_⟩,_⟩,_⟩,_⟩,_⟩,_⟩,_,_⟩:=h
 obtain rfl:=Option.some.inj (Agz.symm.trans hg0)
 obtain rfl:=Option.some.inj (Ane.symm.trans hg1)
 obtain rfl:=Option.some.inj (Aq9.symm.trans hg2)
 obtain rfl:=Option.some.inj (Asj.symm.trans hg3)
 obtain rfl:=Option.some.inj (Ah6.symm.trans hg4)
 obtain rfl:=Option.some.inj (Asa.symm.trans ht4)
 obtain rfl:=Option.some.inj (Asn.symm.trans ht2)
 obtain rfl:=Option.some.inj (As4.symm.trans ht3)
 obtain rfl:=Option.some.inj (Ajw.symm.trans ht0)
 obtain rfl:=Option.some.inj (Apr.symm.trans ht1)
 have a0:=Ae1 (l:=Zo) Tryz.underlying240 Tryz.underlying9 Als hd0
 have a1:=Ac8 (l:=kM) Tryz.underlying239 Tryz.underlying3 Ape hd1
 have a4:=Lib.cells_of_tab (k:=.u64) (zs:=sE) Tryz.underlying412 Tryz.underlying322 (by kernel_rfl) (by kernel_rfl) hd4
 have a2:=kW (l:=Abk) Ao6 u_f Agb hd2
 have a3:=kW (l:=Adn) Ao6 u_f Agb hd3
 refine ⟨by rw [hv4];congr 1;rw [← a4],fun k b hk=> ?_,fun k b hk=> ?_,fun k b hk=> ?_,fun k b hk=> ?_⟩
 ·rw [World.var?_cell hg0 hv0 k,← Array.getElem?_toList];exact a0 k b hk
 ·rw [World.var?_cell hg1 hv1 k,← Array.getElem?_toList];exact a1 k b hk
 ·rw [World.var?_cell hg2 hv2 k,← Array.getElem?_toList];exact a2 k b hk
 ·rw [World.var?_cell hg3 hv3 k,← Array.getElem?_toList];exact a3 k b hk
theorem Rl {c:Cx}:∀l:List Nat,Bm c (l.map fun b=>AV.sc (.float .f64 b)) (l.map fun b=>Value.float .f64 b)
 |[]=> .nil
 |b::l=> .cons (.sc _ rfl) (Rl l)
theorem Uf {c:Cx}:∀l:List (List UInt8),Bm c (l.map fun b=>An ⟨b.toArray⟩) (l.map fun b=>Value.string ⟨b.toArray⟩)
 |[]=> .nil
 |b::l=> .cons (.sc _ rfl) (Uf l)
theorem Xy {c:Cx}:∀l:List Int,Bm c (l.map Aa) (l.map fun b=>Value.int .i64 b)
 |[]=> .nil
 |b::l=> .cons (.sc _ rfl) (Xy l)
theorem dE {c:Cx}:∀l:List Int,Bm c (l.map fun z=>AV.sc (.int .u64 z)) (l.map fun b=>Value.int .u64 b)
 |[]=> .nil
 |b::l=> .cons (.sc _ rfl) (dE l)
theorem Aef {W:World} (h:laidMetH Tryz.prog S6 W):Cw glb (Rh W):=by
 obtain ⟨h5,h1,h2,h3,h4⟩:=Adm h
 have s0:=h3 0 _ rfl
 have c0:=h4 0 _ rfl
 have w0:=h1 0 _ rfl
 have m0:=h2 0 _ rfl
 intro g cs hg
 have hw:Bo (Rh W) (.Cq (Zo.map fun b=>An ⟨b.toArray⟩) 0) (.pointer (some ⟨1,0,none⟩)):=.Cq (c:=Rh W) (b:=1) (o:=0) (vs:=Zo.map fun b=>Value.string ⟨b.toArray⟩) (Hs (by simpa using World.block_lt_of_cell? W _ w0)) (Uf _) (fun k v hk=>by
  rw [List.getElem?_map] at hk
  obtain ⟨b,hb,rfl⟩:=Option.map_eq_some_iff.1 hk
  rw [Nat.zero_add];exact h1 k b hb) 0
 have hm:Bo (Rh W) (.Cq (kM.map Aa) 0) (.pointer (some ⟨0,0,none⟩)):=.Cq (c:=Rh W) (b:=0) (o:=0) (vs:=kM.map fun b=>Value.int .i64 b) (Hs (by simpa using World.block_lt_of_cell? W _ m0)) (Xy _) (fun k v hk=>by
  rw [List.getElem?_map] at hk
  obtain ⟨b,hb,rfl⟩:=Option.map_eq_some_iff.1 hk
  rw [Nat.zero_add];exact h2 k b hb) 0
 have hs:Bo (Rh W) (.Cq (Abk.map fun b=>AV.sc (.float .f64 b)) 0) (.pointer (some ⟨10,0,none⟩)):=.Cq (c:=Rh W) (b:=10) (o:=0) (vs:=Abk.map fun b=>Value.float .f64 b) (Hs (by simpa using World.block_lt_of_cell? W _ s0)) (Rl _) (fun k v hk=>by
  rw [List.getElem?_map] at hk
  obtain ⟨b,hb,rfl⟩:=Option.map_eq_some_iff.1 hk
  rw [Nat.zero_add];exact h3 k b hb) 0
 have hc:Bo (Rh W) (.Cq (Adn.map fun b=>AV.sc (.float .f64 b)) 0) (.pointer (some ⟨9,0,none⟩)):=.Cq (c:=Rh W) (b:=9) (o:=0) (vs:=Adn.map fun b=>Value.float .f64 b) (Hs (by simpa using World.block_lt_of_cell? W _ c0)) (Rl _) (fun k v hk=>by
  rw [List.getElem?_map] at hk
  obtain ⟨b,hb,rfl⟩:=Option.map_eq_some_iff.1 hk
  rw [Nat.zero_add];exact h4 k b hb) 0
 have hp5:∀(k:Nat) (b:Int),sE[k]?=some b→W.cell? ⟨6,k,none⟩=some (.int .u64 b):=fun k b hk=>by
  rw [World.var?_cell Ah6 h5 k];simp [hk]
 have p0:=hp5 0 _ rfl
 have hp:Bo (Rh W) (.Cq (sE.map fun z=> .sc (.int .u64 z)) 0) (.pointer (some ⟨6,0,none⟩)):=.Cq (c:=Rh W) (b:=6) (o:=0) (vs:=sE.map fun b=>Value.int .u64 b) (Hs (by simpa using World.block_lt_of_cell? W _ p0)) (dE _) (fun k v hk=>by
  rw [List.getElem?_map] at hk
  obtain ⟨b,hb,rfl⟩:=Option.map_eq_some_iff.1 hk
  rw [Nat.zero_add];exact hp5 k b hb) 0
 have hz:Ta (Rh W) 6 20:=⟨Hs (by simpa using World.block_lt_of_cell? W _ p0),by
  simp only [World.var?,Ah6,Option.bind_some] at h5
  split at h5
  ·rename_i cs t fz hb
   cases h5
   exact ⟨_,t,fz,hb,by rfl⟩
  ·cases h5⟩
 unfold glb at hg
 split at hg
 ·cases hg;exact ⟨rfl,hm,fun q=>by cases q⟩
 ·cases hg;exact ⟨rfl,hw,fun q=>by cases q⟩
 ·cases hg;exact ⟨rfl,hp,fun _=>hz⟩
 ·cases hg;exact ⟨rfl,hc,fun q=>by cases q⟩
 ·cases hg;exact ⟨rfl,hs,fun q=>by cases q⟩
 ·cases hg
end Go.Proofs.YtkdodbfnocdkdaaGreatDoor
