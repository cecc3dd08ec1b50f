/- A part. -/
import Derived.Test.YtmechmjjcgdpdaaGreatDoorX1T
import Derived.Test.YtmechmjjcgdpdaaGreatDoorPJ
import Derived.Test.YtmechmjjcgdpdaaGreatDoorPi23
import Derived.Test.YtmechmjjcgdpdaaGreatDoorRows
import Derived.LaidMore
import Derived.OpenShut
import Derived.Lib.LaidTab
set_option linter.unusedVariables false
set_option linter.unusedSimpArgs false
namespace Go.Proofs.YtmechmjjcgdpdaaGreatDoor
open Go.ChangeShapes Go.WideShapes Go.ChangeAt Go.RowKit
def Su:List (String×DataW Unit):=[("math/bits.deBruijn32tab",Rows.laid_math_bits_deBruijn32tab),("math/bits.deBruijn64tab",Rows.laid_math_bits_deBruijn64tab),("internal/strconv.uint64pow10",Rows.laid_internal_strconv_uint64pow10),("unicode/utf8.acceptRanges",Rows.laid_unicode_utf8_acceptRanges),("math._sin",Rows.laid_math_sin),("math._cos",Rows.laid_math_cos),("math.mPi4",Rows.laid_math_mPi4),("strconv.ErrRange",Rows.laid_strconv_ErrRange),("strconv.ErrSyntax",Rows.laid_strconv_ErrSyntax),("skyway/phrase.words",Rows.laid_skyway_phrase_words),("skyway/phrase.most",Rows.laid_skyway_phrase_most),("unicode/utf8.first",Rows.laid_unicode_utf8_first)]
theorem Ak6:Tryz.prog.globalNamed "skyway/phrase.words" =some 1:=by kernel_rfl
theorem Ann:Tryz.prog.globalNamed "skyway/phrase.most" =some 0:=by kernel_rfl
theorem Ake:(Tryz.prog.globals[1]?).map (·.type)=some 270:=by kernel_rfl
theorem Ams:(Tryz.prog.globals[0]?).map (·.type)=some 269:=by kernel_rfl
theorem Amq:Tryz.prog.globalNamed "internal/strconv.uint64pow10" =some 6:=by kernel_rfl
theorem Aol:(Tryz.prog.globals[6]?).map (·.type)=some 428:=by kernel_rfl
theorem Anc:Tryz.prog.cellsOf 9=1:=by kernel_rfl
theorem An0:Tryz.prog.cellsOf 3=1:=by kernel_rfl
theorem Aev {H:Type} {enc:TypeId×Value→H} {P:Program} {W:World} {base fuel n:Nat} {sp:Nat→Bool} {held:Bool} {t e:TypeId} {cs:List Value} {l:List (List UInt8)} {p:List MemPlace} (hu:P.underlying t=some (.array n e)) (he:P.underlying e=some .string) (hc:P.cellsOf e=1) (h:DataW.trod enc P W base sp held fuel t cs=some (.agg (l.map fun b=> .lit (.string b)),p)):∀(k:Nat) (b:List UInt8),l[k]?=some b→cs[k]?=some (.string ⟨b.toArray⟩):=by
 obtain ⟨xs,m,-,hx,-,hn,hel⟩:=DataW.trod_array hu h
 intro k b hk
 simp only [Prod.mk.injEq,DataW.agg.injEq] at hx
 have hxk:(xs.map (·.1))[k]?=some (.lit (.string b)):=by rw [← hx.1,List.getElem?_map,hk];rfl
 rw [List.getElem?_map] at hxk
 obtain ⟨x,hx1,hx2⟩:=Option.map_eq_some_iff.1 hxk
 have hkn:k<n:=by
  rw [← hn]
  rcases Nat.lt_or_ge k xs.length with h|h
  ·exact h
  ·rw [List.getElem?_eq_none h] at hx1;cases hx1
 have h1:=hel k hkn
 rw [hx1] at h1
 obtain ⟨s,e1,e2,-⟩:=DataW.trod_string he h1
 rw [e2] at hx2
 have hb:s.data.toList=b:=by simpa using hx2
 rw [hc,Nat.mul_one] at e1
 have:cs[k]?=some (.string s):=by
  have:=congrArg (fun q=>q[0]?) e1
  simpa [List.getElem?_take,List.getElem?_drop] using this
 rw [this,← hb]
theorem Acj {H:Type} {enc:TypeId×Value→H} {P:Program} {W:World} {base fuel n:Nat} {sp:Nat→Bool} {held:Bool} {t e:TypeId} {cs:List Value} {l:List Int} {p:List MemPlace} (hu:P.underlying t=some (.array n e)) (he:P.underlying e=some (.int .i64)) (hc:P.cellsOf e=1) (h:DataW.trod enc P W base sp held fuel t cs=some (.agg (l.map fun b=> .lit (.int .i64 b)),p)):∀(k:Nat) (b:Int),l[k]?=some b→cs[k]?=some (.int .i64 b):=by
 obtain ⟨xs,m,-,hx,-,hn,hel⟩:=DataW.trod_array hu h
 intro k b hk
 simp only [Prod.mk.injEq,DataW.agg.injEq] at hx
 have hxk:(xs.map (·.1))[k]?=some (.lit (.int .i64 b)):=by rw [← hx.1,List.getElem?_map,hk];rfl
 rw [List.getElem?_map] at hxk
 obtain ⟨x,hx1,hx2⟩:=Option.map_eq_some_iff.1 hxk
 have hkn:k<n:=by
  rw [← hn]
  rcases Nat.lt_or_ge k xs.length with h|h
  ·exact h
  ·rw [List.getElem?_eq_none h] at hx1;cases hx1
 have h1:=hel k hkn
 rw [hx1] at h1
 obtain ⟨s,e1,e2,-⟩:=DataW.trod_int he h1
 rw [e2] at hx2
 have hb:s=b:=by simpa using hx2
 rw [hc,Nat.mul_one] at e1
 have:cs[k]?=some (.int .i64 s):=by
  have:=congrArg (fun q=>q[0]?) e1
  simpa [List.getElem?_take,List.getElem?_drop] using this
 rw [this,hb]
theorem yD {H:Type} {enc:TypeId×Value→H} {P:Program} {w:World} {base fuel:Nat} {spare:Nat→Bool} {held:Bool} {t:TypeId} {cs:List Value} {x:DataW H×List MemPlace} {k:FloatKind} (ht:P.underlying t=some (.float k)) (h:DataW.trod enc P w base spare held fuel t cs=some x):∃n,cs=[.float k n]∧x=(.lit (.float k n),[])∧(Lit.float k n).wf=true:=by
 cases fuel with
 |zero=>simp [DataW.trod] at h
 |succ n=>
  unfold DataW.trod at h
  rw [ht] at h
  split at h<;>simp_all
theorem lH {H:Type} {enc:TypeId×Value→H} {P:Program} {W:World} {base fuel n:Nat} {sp:Nat→Bool} {held:Bool} {t e:TypeId} {cs:List Value} {l:List Nat} {p:List MemPlace} (hu:P.underlying t=some (.array n e)) (he:P.underlying e=some (.float .f64)) (hc:P.cellsOf e=1) (h:DataW.trod enc P W base sp held fuel t cs=some (.agg (l.map fun b=> .lit (.float .f64 b)),p)):∀(k:Nat) (b:Nat),l[k]?=some b→cs[k]?=some (.float .f64 b):=by
 obtain ⟨xs,m,-,hx,-,hn,hel⟩:=DataW.trod_array hu h
 intro k b hk
 simp only [Prod.mk.injEq,DataW.agg.injEq] at hx
 have hxk:(xs.map (·.1))[k]?=some (.lit (.float .f64 b)):=by rw [← hx.1,List.getElem?_map,hk];rfl
 rw [List.getElem?_map] at hxk
 obtain ⟨x,hx1,hx2⟩:=Option.map_eq_some_iff.1 hxk
 have hkn:k<n:=by
  rw [← hn]
  rcases Nat.lt_or_ge k xs.length with h|h
  ·exact h
  ·rw [List.getElem?_eq_none h] at hx1;cases hx1
 have h1:=hel k hkn
 rw [hx1] at h1
 obtain ⟨s,e1,e2,-⟩:=yD he h1
 rw [e2] at hx2
 have hb:s=b:=by simpa using hx2
 rw [hc,Nat.mul_one] at e1
 have:cs[k]?=some (.float .f64 s):=by
  have:=congrArg (fun q=>q[0]?) e1
  simpa [List.getElem?_take,List.getElem?_drop] using this
 rw [this,hb]
def Agi:List Nat:=[4460209587652500685,13716528389658582877,4523617212962785441,13774824197404483331,4575957461383575504,13818544856648471880]
def Afe:List Nat:=[13666448263388469915,4477121864728985349,13732177093698800582,4537941361668146421,13787419979223748497,4586165620538955083]
theorem Aof:Tryz.prog.globalNamed "math._sin" =some 10:=by kernel_rfl
theorem Ap4:Tryz.prog.globalNamed "math._cos" =some 9:=by kernel_rfl
theorem Aoe:(Tryz.prog.globals[10]?).map (·.type)=some 453:=by kernel_rfl
theorem Apf:(Tryz.prog.globals[9]?).map (·.type)=some 453:=by kernel_rfl
theorem Amx:Tryz.prog.underlying 453=some (.array 6 397):=by kernel_rfl
theorem u_f:Tryz.prog.underlying 397=some (.float .f64):=by kernel_rfl
theorem Ahl:Tryz.prog.cellsOf 397=1:=by kernel_rfl
def Y5:List (List UInt8):=[[72,69,73,71,72,84],[72,69,65,68,73,78,71],[83,80,69,69,68],[68,73,82,69,67,84],[72,79,76,68],[67,79,78,84,65,67,84],[76,65,78,68]]
def oO:List Int:=[60000,4095,400]
def uN:List Int:=[1,10,100,1000,10000,100000,1000000,10000000,100000000,1000000000,10000000000,100000000000,1000000000000,10000000000000,100000000000000,1000000000000000,10000000000000000,100000000000000000,1000000000000000000,10000000000000000000]
theorem Ad3 {W:World} (h:laidMetH Tryz.prog Su W):W.var? Tryz.prog "internal/strconv.uint64pow10" =some (uN.map fun z=>Value.int .u64 z).toArray∧(∀(k:Nat) (b:List UInt8),Y5[k]?=some b→W.cell? ⟨1,k,none⟩=some (.string ⟨b.toArray⟩))∧(∀(k:Nat) (b:Int),oO[k]?=some b→W.cell? ⟨0,k,none⟩=some (.int .i64 b))∧(∀(k:Nat) (b:Nat),Agi[k]?=some b→W.cell? ⟨10,k,none⟩=some (.float .f64 b))∧∀(k:Nat) (b:Nat),Afe[k]?=some b→W.cell? ⟨9,k,none⟩=some (.float .f64 b):=by
 rw [MakeChecks.laidMetH_plain _ _ _ (by kernel_rfl)] at h
 obtain ⟨ps,⟨-,-,-,-,-,-,-,-,-,-,⟨-,-,-,-,-,-,-,-,-,-,⟨g4,t4,cs4,f4,p4,q4,hg4,ht4,hv4,hd4,⟨-,-,-,-,-,-,-,-,-,-,⟨g2,t2,cs2,f2,p2,q2,hg2,ht2,hv2,hd2,⟨g3,t3,cs3,f3,p3,q3,hg3,ht3,hv3,hd3,⟨-,-,-,-,-,-,-,-,-,-,⟨-,-,-,-,-,-,-,-,-,-,⟨-,-,-,-,-,-,-,-,-,-,⟨g0,t0,cs0,f0,p0,q0,hg0,ht0,hv0,hd0,⟨g1,t1,cs1,f1,p1,q1,hg1,ht1,hv1,hd1,_,_⟩,_⟩,_⟩,_⟩,_⟩,_⟩,_⟩,_⟩,_⟩,_⟩,_⟩,_,_⟩:=h
 obtain rfl:=Option.some.inj (Ak6.symm.trans hg0)
 obtain rfl:=Option.some.inj (Ann.symm.trans hg1)
 obtain rfl:=Option.some.inj (Aof.symm.trans hg2)
 obtain rfl:=Option.some.inj (Ap4.symm.trans hg3)
 obtain rfl:=Option.some.inj (Amq.symm.trans hg4)
 obtain rfl:=Option.some.inj (Aol.symm.trans ht4)
 obtain rfl:=Option.some.inj (Aoe.symm.trans ht2)
 obtain rfl:=Option.some.inj (Apf.symm.trans ht3)
 obtain rfl:=Option.some.inj (Ake.symm.trans ht0)
 obtain rfl:=Option.some.inj (Ams.symm.trans ht1)
 have a0:=Aev (l:=Y5) Tryz.underlying270 Tryz.underlying9 Anc hd0
 have a1:=Acj (l:=oO) Tryz.underlying269 Tryz.underlying3 An0 hd1
 have a4:=Lib.cells_of_tab (k:=.u64) (zs:=uN) Tryz.underlying428 Tryz.underlying259 (by kernel_rfl) (by kernel_rfl) hd4
 have a2:=lH (l:=Agi) Amx u_f Ahl hd2
 have a3:=lH (l:=Afe) Amx u_f Ahl hd3
 refine ⟨by rw [hv4];congr 1;rw [← a4],fun k b hk=> ?_,fun k b hk=> ?_,fun k b hk=> ?_,fun k b hk=> ?_⟩
 ·rw [World.var?_cell hg0 hv0 k,← Array.getElem?_toList];exact a0 k b hk
 ·rw [World.var?_cell hg1 hv1 k,← Array.getElem?_toList];exact a1 k b hk
 ·rw [World.var?_cell hg2 hv2 k,← Array.getElem?_toList];exact a2 k b hk
 ·rw [World.var?_cell hg3 hv3 k,← Array.getElem?_toList];exact a3 k b hk
theorem Rn {c:Cx}:∀l:List Nat,Be c (l.map fun b=>AV.sc (.float .f64 b)) (l.map fun b=>Value.float .f64 b)
 |[]=> .nil
 |b::l=> .cons (.sc _ rfl) (Rn l)
theorem V0 {c:Cx}:∀l:List (List UInt8),Be c (l.map fun b=>Bq ⟨b.toArray⟩) (l.map fun b=>Value.string ⟨b.toArray⟩)
 |[]=> .nil
 |b::l=> .cons (.sc _ rfl) (V0 l)
theorem Yg {c:Cx}:∀l:List Int,Be c (l.map Aa) (l.map fun b=>Value.int .i64 b)
 |[]=> .nil
 |b::l=> .cons (.sc _ rfl) (Yg l)
theorem dH {c:Cx}:∀l:List Int,Be c (l.map fun z=>AV.sc (.int .u64 z)) (l.map fun b=>Value.int .u64 b)
 |[]=> .nil
 |b::l=> .cons (.sc _ rfl) (dH l)
theorem Ae3 {W:World} (h:laidMetH Tryz.prog Su W):B2 glb (Ns W):=by
 obtain ⟨h5,h1,h2,h3,h4⟩:=Ad3 h
 have s0:=h3 0 _ rfl
 have c0:=h4 0 _ rfl
 have w0:=h1 0 _ rfl
 have m0:=h2 0 _ rfl
 intro g cs hg
 have hw:A9 (Ns W) (.B6 (Y5.map fun b=>Bq ⟨b.toArray⟩) 0) (.pointer (some ⟨1,0,none⟩)):=.B6 (c:=Ns W) (b:=1) (o:=0) (vs:=Y5.map fun b=>Value.string ⟨b.toArray⟩) (He (by simpa using World.block_lt_of_cell? W _ w0)) (V0 _) (fun k v hk=>by
  rw [List.getElem?_map] at hk
  obtain ⟨b,hb,rfl⟩:=Option.map_eq_some_iff.1 hk
  rw [Nat.zero_add];exact h1 k b hb) 0
 have hm:A9 (Ns W) (.B6 (oO.map Aa) 0) (.pointer (some ⟨0,0,none⟩)):=.B6 (c:=Ns W) (b:=0) (o:=0) (vs:=oO.map fun b=>Value.int .i64 b) (He (by simpa using World.block_lt_of_cell? W _ m0)) (Yg _) (fun k v hk=>by
  rw [List.getElem?_map] at hk
  obtain ⟨b,hb,rfl⟩:=Option.map_eq_some_iff.1 hk
  rw [Nat.zero_add];exact h2 k b hb) 0
 have hs:A9 (Ns W) (.B6 (Agi.map fun b=>AV.sc (.float .f64 b)) 0) (.pointer (some ⟨10,0,none⟩)):=.B6 (c:=Ns W) (b:=10) (o:=0) (vs:=Agi.map fun b=>Value.float .f64 b) (He (by simpa using World.block_lt_of_cell? W _ s0)) (Rn _) (fun k v hk=>by
  rw [List.getElem?_map] at hk
  obtain ⟨b,hb,rfl⟩:=Option.map_eq_some_iff.1 hk
  rw [Nat.zero_add];exact h3 k b hb) 0
 have hc:A9 (Ns W) (.B6 (Afe.map fun b=>AV.sc (.float .f64 b)) 0) (.pointer (some ⟨9,0,none⟩)):=.B6 (c:=Ns W) (b:=9) (o:=0) (vs:=Afe.map fun b=>Value.float .f64 b) (He (by simpa using World.block_lt_of_cell? W _ c0)) (Rn _) (fun k v hk=>by
  rw [List.getElem?_map] at hk
  obtain ⟨b,hb,rfl⟩:=Option.map_eq_some_iff.1 hk
  rw [Nat.zero_add];exact h4 k b hb) 0
 have hp5:∀(k:Nat) (b:Int),uN[k]?=some b→W.cell? ⟨6,k,none⟩=some (.int .u64 b):=fun k b hk=>by
  rw [World.var?_cell Amq h5 k];simp [hk]
 have p0:=hp5 0 _ rfl
 have hp:A9 (Ns W) (.B6 (uN.map fun z=> .sc (.int .u64 z)) 0) (.pointer (some ⟨6,0,none⟩)):=.B6 (c:=Ns W) (b:=6) (o:=0) (vs:=uN.map fun b=>Value.int .u64 b) (He (by simpa using World.block_lt_of_cell? W _ p0)) (dH _) (fun k v hk=>by
  rw [List.getElem?_map] at hk
  obtain ⟨b,hb,rfl⟩:=Option.map_eq_some_iff.1 hk
  rw [Nat.zero_add];exact hp5 k b hb) 0
 unfold glb at hg
 split at hg
 ·cases hg;exact ⟨rfl,hm,fun q=>by cases q⟩
 ·cases hg;exact ⟨rfl,hw,fun q=>by cases q⟩
 ·cases hg;exact ⟨rfl,hp,fun q=>by cases q⟩
 ·cases hg;exact ⟨rfl,hc,fun q=>by cases q⟩
 ·cases hg;exact ⟨rfl,hs,fun q=>by cases q⟩
 ·cases hg
end Go.Proofs.YtmechmjjcgdpdaaGreatDoor
