/- A part. -/
import Derived.Test.YtmhnnmfcjdnlhaaGreatDoorX1T
import Derived.Test.YtmhnnmfcjdnlhaaGreatDoorPJ
import Derived.Test.YtmhnnmfcjdnlhaaGreatDoorPi23
import Derived.Test.YtmhnnmfcjdnlhaaGreatDoorRows
import Derived.LaidMore
import Derived.OpenShut
set_option linter.unusedVariables false
set_option linter.unusedSimpArgs false
namespace Go.Proofs.YtmhnnmfcjdnlhaaGreatDoor
open Go.ChangeShapes Go.WideShapes Go.ChangeAt Go.RowKit
def Qa:List (String×DataW Unit):=[("math._sin",Rows.laid_math_sin),("math._cos",Rows.laid_math_cos),("math.mPi4",Rows.laid_math_mPi4),("skyway/phrase.words",Rows.laid_skyway_phrase_words),("skyway/phrase.most",Rows.laid_skyway_phrase_most)]
theorem yZ:Tryz.prog.globalNamed "skyway/phrase.words" =some 1:=by kernel_rfl
theorem Adu:Tryz.prog.globalNamed "skyway/phrase.most" =some 0:=by kernel_rfl
theorem Aao:(Tryz.prog.globals[1]?).map (·.type)=some 121:=by kernel_rfl
theorem Ado:(Tryz.prog.globals[0]?).map (·.type)=some 85:=by kernel_rfl
theorem Ae6:Tryz.prog.cellsOf 9=1:=by kernel_rfl
theorem Afd:Tryz.prog.cellsOf 3=1:=by kernel_rfl
theorem pF {H:Type} {enc:TypeId×Value→H} {P:Program} {W:World} {base fuel n:Nat} {sp:Nat→Bool} {held:Bool} {t e:TypeId} {cs:List Value} {l:List (List UInt8)} {p:List MemPlace} (hu:P.underlying t=some (.array n e)) (he:P.underlying e=some .string) (hc:P.cellsOf e=1) (h:DataW.trod enc P W base sp held fuel t cs=some (.agg (l.map fun b=> .lit (.string b)),p)):∀(k:Nat) (b:List UInt8),l[k]?=some b→cs[k]?=some (.string ⟨b.toArray⟩):=by
 obtain ⟨xs,m,-,hx,-,hn,hel⟩:=DataW.trod_array hu h
 intro k b hk
 simp only [Prod.mk.injEq,DataW.agg.injEq] at hx
 have hxk:(xs.map (·.1))[k]?=some (.lit (.string b)):=by rw [← hx.1,List.getElem?_map,hk];rfl
 rw [List.getElem?_map] at hxk
 obtain ⟨x,hx1,hx2⟩:=Option.map_eq_some_iff.1 hxk
 have hkn:k<n:=by
  rw [← hn]
  rcases Nat.lt_or_ge k xs.length with h|h
  ·exact h
  ·rw [List.getElem?_eq_none h] at hx1;cases hx1
 have h1:=hel k hkn
 rw [hx1] at h1
 obtain ⟨s,e1,e2,-⟩:=DataW.trod_string he h1
 rw [e2] at hx2
 have hb:s.data.toList=b:=by simpa using hx2
 rw [hc,Nat.mul_one] at e1
 have:cs[k]?=some (.string s):=by
  have:=congrArg (fun q=>q[0]?) e1
  simpa [List.getElem?_take,List.getElem?_drop] using this
 rw [this,← hb]
theorem uZ {H:Type} {enc:TypeId×Value→H} {P:Program} {W:World} {base fuel n:Nat} {sp:Nat→Bool} {held:Bool} {t e:TypeId} {cs:List Value} {l:List Int} {p:List MemPlace} (hu:P.underlying t=some (.array n e)) (he:P.underlying e=some (.int .i64)) (hc:P.cellsOf e=1) (h:DataW.trod enc P W base sp held fuel t cs=some (.agg (l.map fun b=> .lit (.int .i64 b)),p)):∀(k:Nat) (b:Int),l[k]?=some b→cs[k]?=some (.int .i64 b):=by
 obtain ⟨xs,m,-,hx,-,hn,hel⟩:=DataW.trod_array hu h
 intro k b hk
 simp only [Prod.mk.injEq,DataW.agg.injEq] at hx
 have hxk:(xs.map (·.1))[k]?=some (.lit (.int .i64 b)):=by rw [← hx.1,List.getElem?_map,hk];rfl
 rw [List.getElem?_map] at hxk
 obtain ⟨x,hx1,hx2⟩:=Option.map_eq_some_iff.1 hxk
 have hkn:k<n:=by
  rw [← hn]
  rcases Nat.lt_or_ge k xs.length with h|h
  ·exact h
  ·rw [List.getElem?_eq_none h] at hx1;cases hx1
 have h1:=hel k hkn
 rw [hx1] at h1
 obtain ⟨s,e1,e2,-⟩:=DataW.trod_int he h1
 rw [e2] at hx2
 have hb:s=b:=by simpa using hx2
 rw [hc,Nat.mul_one] at e1
 have:cs[k]?=some (.int .i64 s):=by
  have:=congrArg (fun q=>q[0]?) e1
  simpa [List.getElem?_take,List.getElem?_drop] using this
 rw [this,hb]
theorem j4 {H:Type} {enc:TypeId×Value→H} {P:Program} {w:World} {base fuel:Nat} {spare:Nat→Bool} {held:Bool} {t:TypeId} {cs:List Value} {x:DataW H×List MemPlace} {k:FloatKind} (ht:P.underlying t=some (.float k)) (h:DataW.trod enc P w base spare held fuel t cs=some x):∃n,cs=[.float k n]∧x=(.lit (.float k n),[])∧(Lit.float k n).wf=true:=by
 cases fuel with
 |zero=>simp [DataW.trod] at h
 |succ n=>
  unfold DataW.trod at h
  rw [ht] at h
  split at h<;>simp_all
theorem cV {H:Type} {enc:TypeId×Value→H} {P:Program} {W:World} {base fuel n:Nat} {sp:Nat→Bool} {held:Bool} {t e:TypeId} {cs:List Value} {l:List Nat} {p:List MemPlace} (hu:P.underlying t=some (.array n e)) (he:P.underlying e=some (.float .f64)) (hc:P.cellsOf e=1) (h:DataW.trod enc P W base sp held fuel t cs=some (.agg (l.map fun b=> .lit (.float .f64 b)),p)):∀(k:Nat) (b:Nat),l[k]?=some b→cs[k]?=some (.float .f64 b):=by
 obtain ⟨xs,m,-,hx,-,hn,hel⟩:=DataW.trod_array hu h
 intro k b hk
 simp only [Prod.mk.injEq,DataW.agg.injEq] at hx
 have hxk:(xs.map (·.1))[k]?=some (.lit (.float .f64 b)):=by rw [← hx.1,List.getElem?_map,hk];rfl
 rw [List.getElem?_map] at hxk
 obtain ⟨x,hx1,hx2⟩:=Option.map_eq_some_iff.1 hxk
 have hkn:k<n:=by
  rw [← hn]
  rcases Nat.lt_or_ge k xs.length with h|h
  ·exact h
  ·rw [List.getElem?_eq_none h] at hx1;cases hx1
 have h1:=hel k hkn
 rw [hx1] at h1
 obtain ⟨s,e1,e2,-⟩:=j4 he h1
 rw [e2] at hx2
 have hb:s=b:=by simpa using hx2
 rw [hc,Nat.mul_one] at e1
 have:cs[k]?=some (.float .f64 s):=by
  have:=congrArg (fun q=>q[0]?) e1
  simpa [List.getElem?_take,List.getElem?_drop] using this
 rw [this,hb]
def xB:List Nat:=[4460209587652500685,13716528389658582877,4523617212962785441,13774824197404483331,4575957461383575504,13818544856648471880]
def rB:List Nat:=[13666448263388469915,4477121864728985349,13732177093698800582,4537941361668146421,13787419979223748497,4586165620538955083]
theorem Agg:Tryz.prog.globalNamed "math._sin" =some 4:=by kernel_rfl
theorem Ag8:Tryz.prog.globalNamed "math._cos" =some 3:=by kernel_rfl
theorem Aha:(Tryz.prog.globals[4]?).map (·.type)=some 138:=by kernel_rfl
theorem Ag7:(Tryz.prog.globals[3]?).map (·.type)=some 138:=by kernel_rfl
theorem Adc:Tryz.prog.underlying 138=some (.array 6 104):=by kernel_rfl
theorem u_f:Tryz.prog.underlying 104=some (.float .f64):=by kernel_rfl
theorem xY:Tryz.prog.cellsOf 104=1:=by kernel_rfl
def Va:List (List UInt8):=[[72,69,73,71,72,84],[72,69,65,68,73,78,71],[83,80,69,69,68],[68,73,82,69,67,84],[72,79,76,68],[67,79,78,84,65,67,84],[76,65,78,68]]
def cO:List Int:=[60000,4095,400]
theorem tA {W:World} (h:laidMetH Tryz.prog Qa W):(∀(k:Nat) (b:List UInt8),Va[k]?=some b→W.cell? ⟨1,k,none⟩=some (.string ⟨b.toArray⟩))∧(∀(k:Nat) (b:Int),cO[k]?=some b→W.cell? ⟨0,k,none⟩=some (.int .i64 b))∧(∀(k:Nat) (b:Nat),xB[k]?=some b→W.cell? ⟨4,k,none⟩=some (.float .f64 b))∧∀(k:Nat) (b:Nat),rB[k]?=some b→W.cell? ⟨3,k,none⟩=some (.float .f64 b):=by
 rw [MakeChecks.laidMetH_plain _ _ _ (by kernel_rfl)] at h
 obtain ⟨ps,⟨g2,t2,cs2,f2,p2,q2,hg2,ht2,hv2,hd2,⟨g3,t3,cs3,f3,p3,q3,hg3,ht3,hv3,hd3,⟨-,-,-,-,-,-,-,-,-,-,⟨g0,t0,cs0,f0,p0,q0,hg0,ht0,hv0,hd0,⟨g1,t1,cs1,f1,p1,q1,hg1,ht1,hv1,hd1,_,_⟩,_⟩,_⟩,_⟩,_⟩,_,_⟩:=h
 obtain rfl:=Option.some.inj (yZ.symm.trans hg0)
 obtain rfl:=Option.some.inj (Adu.symm.trans hg1)
 obtain rfl:=Option.some.inj (Agg.symm.trans hg2)
 obtain rfl:=Option.some.inj (Ag8.symm.trans hg3)
 obtain rfl:=Option.some.inj (Aha.symm.trans ht2)
 obtain rfl:=Option.some.inj (Ag7.symm.trans ht3)
 obtain rfl:=Option.some.inj (Aao.symm.trans ht0)
 obtain rfl:=Option.some.inj (Ado.symm.trans ht1)
 have a0:=pF (l:=Va) Tryz.underlying121 Tryz.underlying9 Ae6 hd0
 have a1:=uZ (l:=cO) Tryz.underlying85 Tryz.underlying3 Afd hd1
 have a2:=cV (l:=xB) Adc u_f xY hd2
 have a3:=cV (l:=rB) Adc u_f xY hd3
 refine ⟨fun k b hk=> ?_,fun k b hk=> ?_,fun k b hk=> ?_,fun k b hk=> ?_⟩
 ·rw [World.var?_cell hg0 hv0 k,← Array.getElem?_toList];exact a0 k b hk
 ·rw [World.var?_cell hg1 hv1 k,← Array.getElem?_toList];exact a1 k b hk
 ·rw [World.var?_cell hg2 hv2 k,← Array.getElem?_toList];exact a2 k b hk
 ·rw [World.var?_cell hg3 hv3 k,← Array.getElem?_toList];exact a3 k b hk
theorem Oy {c:Cx}:∀l:List Nat,Cf c (l.map fun b=>AV.sc (.float .f64 b)) (l.map fun b=>Value.float .f64 b)
 |[]=> .nil
 |b::l=> .cons (.sc _ rfl) (Oy l)
theorem S4 {c:Cx}:∀l:List (List UInt8),Cf c (l.map fun b=>Az ⟨b.toArray⟩) (l.map fun b=>Value.string ⟨b.toArray⟩)
 |[]=> .nil
 |b::l=> .cons (.sc _ rfl) (S4 l)
theorem T1 {c:Cx}:∀l:List Int,Cf c (l.map Aa) (l.map fun b=>Value.int .i64 b)
 |[]=> .nil
 |b::l=> .cons (.sc _ rfl) (T1 l)
theorem rZ {W:World} (h:laidMetH Tryz.prog Qa W):Dr glb (Qg W):=by
 obtain ⟨h1,h2,h3,h4⟩:=tA h
 have s0:=h3 0 _ rfl
 have c0:=h4 0 _ rfl
 have w0:=h1 0 _ rfl
 have m0:=h2 0 _ rfl
 intro g cs hg
 have hw:B9 (Qg W) (.Dn (Va.map fun b=>Az ⟨b.toArray⟩) 0) (.pointer (some ⟨1,0,none⟩)):=.Dn (c:=Qg W) (b:=1) (o:=0) (vs:=Va.map fun b=>Value.string ⟨b.toArray⟩) (Jd (by simpa using World.block_lt_of_cell? W _ w0)) (S4 _) (fun k v hk=>by
  rw [List.getElem?_map] at hk
  obtain ⟨b,hb,rfl⟩:=Option.map_eq_some_iff.1 hk
  rw [Nat.zero_add];exact h1 k b hb) 0
 have hm:B9 (Qg W) (.Dn (cO.map Aa) 0) (.pointer (some ⟨0,0,none⟩)):=.Dn (c:=Qg W) (b:=0) (o:=0) (vs:=cO.map fun b=>Value.int .i64 b) (Jd (by simpa using World.block_lt_of_cell? W _ m0)) (T1 _) (fun k v hk=>by
  rw [List.getElem?_map] at hk
  obtain ⟨b,hb,rfl⟩:=Option.map_eq_some_iff.1 hk
  rw [Nat.zero_add];exact h2 k b hb) 0
 have hs:B9 (Qg W) (.Dn (xB.map fun b=>AV.sc (.float .f64 b)) 0) (.pointer (some ⟨4,0,none⟩)):=.Dn (c:=Qg W) (b:=4) (o:=0) (vs:=xB.map fun b=>Value.float .f64 b) (Jd (by simpa using World.block_lt_of_cell? W _ s0)) (Oy _) (fun k v hk=>by
  rw [List.getElem?_map] at hk
  obtain ⟨b,hb,rfl⟩:=Option.map_eq_some_iff.1 hk
  rw [Nat.zero_add];exact h3 k b hb) 0
 have hc:B9 (Qg W) (.Dn (rB.map fun b=>AV.sc (.float .f64 b)) 0) (.pointer (some ⟨3,0,none⟩)):=.Dn (c:=Qg W) (b:=3) (o:=0) (vs:=rB.map fun b=>Value.float .f64 b) (Jd (by simpa using World.block_lt_of_cell? W _ c0)) (Oy _) (fun k v hk=>by
  rw [List.getElem?_map] at hk
  obtain ⟨b,hb,rfl⟩:=Option.map_eq_some_iff.1 hk
  rw [Nat.zero_add];exact h4 k b hb) 0
 unfold glb at hg
 split at hg
 ·cases hg;exact ⟨rfl,hm,fun q=>by cases q⟩
 ·cases hg;exact ⟨rfl,hw,fun q=>by cases q⟩
 ·cases hg;exact ⟨rfl,hc,fun q=>by cases q⟩
 ·cases hg;exact ⟨rfl,hs,fun q=>by cases q⟩
 ·cases hg
end Go.Proofs.YtmhnnmfcjdnlhaaGreatDoor
