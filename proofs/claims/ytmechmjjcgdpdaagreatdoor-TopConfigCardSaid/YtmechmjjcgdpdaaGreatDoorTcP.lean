/- Parts CsL, CsA, CsW, CsH. -/
import Derived.Test.YtmechmjjcgdpdaaGreatDoorPS
import Derived.Test.YtmechmjjcgdpdaaGreatDoorProg
import Derived.Shelf.SlSortCmp.WholeK
import Derived.Shelf.SlicesE.DeleteFunc
import Derived.Shelf.Slices.Turned
import Derived.Test.YtmechmjjcgdpdaaGreatDoorCfH
import Derived.Test.YtmechmjjcgdpdaaGreatDoorTcM
import Derived.Test.YtmechmjjcgdpdaaGreatDoorX1S
import Derived.Test.YtmechmjjcgdpdaaGreatDoorTcN
set_option linter.unusedVariables false
set_option maxRecDepth 100000
namespace Go.Proofs.YtmechmjjcgdpdaaGreatDoor
open Go.RowKit Go.Shelf Go.Sort
def iX:Go.Shelf.Ren:=⟨fun|110=>44|109=>11|n=>n,fun|31=>29|9=>9|4=>4|3=>3|0=>0|n=>n,fun|n=>n⟩
theorem vT:Go.Proofs.Lays.n110 Tryz.prog iX where
 mixed:=by kernel_rfl
 f109:=Tryz.func11.trans (congrArg some (by kernel_rfl))
 f110:=Tryz.func44.trans (congrArg some (by kernel_rfl))
 t0:=Tryz.underlying0
 a0:=Tryz.isAgg0
 z0:=Tryz.sizeOf0
 v0:=Tryz.zeroValue0
 t3:=Tryz.underlying3
 a3:=Tryz.isAgg3
 z3:=Tryz.sizeOf3
 v3:=Tryz.zeroValue3
 t4:=Tryz.underlying4
 a4:=Tryz.isAgg4
 z4:=Tryz.sizeOf4
 v4:=Tryz.zeroValue4
 t9:=Tryz.underlying9
 a9:=Tryz.isAgg9
 z9:=Tryz.sizeOf9
 v9:=Tryz.zeroValue9
 t31:=Tryz.underlying29
 a31:=Tryz.isAgg29
 z31:=Tryz.sizeOf29
 v31:=Tryz.zeroValue29
def jJ:Go.Shelf.Ren:=⟨fun|10=>50|6=>128|n=>n,fun|22=>29|23=>9|25=>152|3=>3|4=>4|0=>0|n=>n,fun|n=>n⟩
theorem Akh:Go.Proofs.SlLaysH.n10 Tryz.prog jJ where
 mixed:=by kernel_rfl
 f6:=⟨Tryz.f128.name,by decide,Tryz.func128.trans (congrArg some (by kernel_rfl))⟩
 f10:=⟨Tryz.f50.name,by decide,Tryz.func50.trans (congrArg some (by kernel_rfl))⟩
 t0:=Tryz.underlying0
 a0:=Tryz.isAgg0
 z0:=Tryz.sizeOf0
 v0:=Tryz.zeroValue0
 t3:=Tryz.underlying3
 a3:=Tryz.isAgg3
 z3:=Tryz.sizeOf3
 v3:=Tryz.zeroValue3
 t4:=Tryz.underlying4
 a4:=Tryz.isAgg4
 z4:=Tryz.sizeOf4
 v4:=Tryz.zeroValue4
 t22:=Tryz.underlying29
 a22:=Tryz.isAgg29
 z22:=Tryz.sizeOf29
 v22:=Tryz.zeroValue29
 a23:=Tryz.isAgg9
 z23:=Tryz.sizeOf9
 t25:=Tryz.underlying152
 a25:=Tryz.isAgg152
 z25:=Tryz.sizeOf152
 v25:=Tryz.zeroValue152
def fL:Go.Shelf.Ren:=⟨fun|6=>121|15=>56|14=>202|28=>138|29=>139|20=>254|21=>255|22=>256|23=>257|24=>258|25=>259|26=>260|27=>261|46=>310|47=>205|48=>206|49=>311|50=>312|57=>342|n=>n,fun|22=>33|24=>37|25=>244|3=>3|39=>155|0=>0|53=>257|55=>259|4=>4|46=>250|45=>249|50=>172|5=>5|9=>9|66=>327|70=>331|76=>370|77=>167|n=>n,fun|n=>n⟩
theorem Aep:Go.Proofs.SlLaysF0.n6 Tryz.prog fL where
 mixed:=by kernel_rfl
 f6:=⟨Tryz.f121.name,by decide,Tryz.func121.trans (congrArg some (by kernel_rfl))⟩
 f14:=⟨Tryz.f202.name,by decide,Tryz.func202.trans (congrArg some (by kernel_rfl))⟩
 f15:=Tryz.func56.trans (congrArg some (by kernel_rfl))
 f20:=⟨Tryz.f254.name,by decide,Tryz.func254.trans (congrArg some (by kernel_rfl))⟩
 f21:=⟨Tryz.f255.name,by decide,Tryz.func255.trans (congrArg some (by kernel_rfl))⟩
 f22:=⟨Tryz.f256.name,by decide,Tryz.func256.trans (congrArg some (by kernel_rfl))⟩
 f23:=⟨Tryz.f257.name,by decide,Tryz.func257.trans (congrArg some (by kernel_rfl))⟩
 f24:=⟨Tryz.f258.name,by decide,Tryz.func258.trans (congrArg some (by kernel_rfl))⟩
 f25:=⟨Tryz.f259.name,by decide,Tryz.func259.trans (congrArg some (by kernel_rfl))⟩
 f26:=⟨Tryz.f260.name,by decide,Tryz.func260.trans (congrArg some (by kernel_rfl))⟩
 f27:=⟨Tryz.f261.name,by decide,Tryz.func261.trans (congrArg some (by kernel_rfl))⟩
 f28:=Tryz.func138.trans (congrArg some (by kernel_rfl))
 f29:=Tryz.func139.trans (congrArg some (by kernel_rfl))
 f46:=⟨Tryz.f310.name,by decide,Tryz.func310.trans (congrArg some (by kernel_rfl))⟩
 f47:=Tryz.func205.trans (congrArg some (by kernel_rfl))
 f48:=Tryz.func206.trans (congrArg some (by kernel_rfl))
 f49:=⟨Tryz.f311.name,by decide,Tryz.func311.trans (congrArg some (by kernel_rfl))⟩
 f50:=⟨Tryz.f312.name,by decide,Tryz.func312.trans (congrArg some (by kernel_rfl))⟩
 f57:=⟨Tryz.f342.name,by decide,Tryz.func342.trans (congrArg some (by kernel_rfl))⟩
 t0:=Tryz.underlying0
 a0:=Tryz.isAgg0
 z0:=Tryz.sizeOf0
 v0:=Tryz.zeroValue0
 t3:=Tryz.underlying3
 a3:=Tryz.isAgg3
 z3:=Tryz.sizeOf3
 v3:=Tryz.zeroValue3
 t4:=Tryz.underlying4
 a4:=Tryz.isAgg4
 z4:=Tryz.sizeOf4
 v4:=Tryz.zeroValue4
 t5:=Tryz.underlying5
 a5:=Tryz.isAgg5
 z5:=Tryz.sizeOf5
 v5:=Tryz.zeroValue5
 t9:=Tryz.underlying9
 a9:=Tryz.isAgg9
 z9:=Tryz.sizeOf9
 v9:=Tryz.zeroValue9
 t22:=Tryz.underlying33
 a22:=Tryz.isAgg33
 z22:=Tryz.sizeOf33
 v22:=Tryz.zeroValue33
 t25:=Tryz.underlying244
 a25:=Tryz.isAgg244
 z25:=Tryz.sizeOf244
 v25:=Tryz.zeroValue244
 t39:=Tryz.underlying155
 a39:=Tryz.isAgg155
 z39:=Tryz.sizeOf155
 v39:=Tryz.zeroValue155
 t45:=Tryz.underlying249
 a45:=Tryz.isAgg249
 z45:=Tryz.sizeOf249
 v45:=Tryz.zeroValue249
 t46:=Tryz.underlying250
 a46:=Tryz.isAgg250
 z46:=Tryz.sizeOf250
 v46:=Tryz.zeroValue250
 t50:=Tryz.underlying172
 a50:=Tryz.isAgg172
 z50:=Tryz.sizeOf172
 v50:=Tryz.zeroValue172
 t53:=Tryz.underlying257
 a53:=Tryz.isAgg257
 z53:=Tryz.sizeOf257
 v53:=Tryz.zeroValue257
 t55:=Tryz.underlying259
 a55:=Tryz.isAgg259
 z55:=Tryz.sizeOf259
 v55:=Tryz.zeroValue259
 t66:=Tryz.underlying327
 a66:=Tryz.isAgg327
 z66:=Tryz.sizeOf327
 v66:=Tryz.zeroValue327
 t70:=Tryz.underlying331
 a70:=Tryz.isAgg331
 z70:=Tryz.sizeOf331
 v70:=Tryz.zeroValue331
 t76:=Tryz.underlying370
 a76:=Tryz.isAgg370
 z76:=Tryz.sizeOf370
 v76:=Tryz.zeroValue370
 t77:=Tryz.underlying167
 a77:=Tryz.isAgg167
 z77:=Tryz.sizeOf167
 v77:=Tryz.zeroValue167
theorem uU:U5 Tryz.prog 121 2:=fun β _ enc hk h1 cf hO g cb Bd off cap d w eg hcmp hH hblk hsz=>AnyQ.slices_SortFunc_eq Aep 2 Tryz.isAgg37 Tryz.sizeOf37 enc hk h1 cf hO g cb Bd off cap d w eg hcmp hH hblk hsz
end Go.Proofs.YtmechmjjcgdpdaaGreatDoor
set_option linter.unusedVariables false
set_option linter.unusedSimpArgs false
namespace Go.Proofs.YtmechmjjcgdpdaaGreatDoor
open Go.RowKit Go.Shelf Go.Sort
theorem bytes_inj {a b:ByteArray} (h:a.toList=b.toList):a=b:=by
 rw [ByteArray.toList_eq,ByteArray.toList_eq] at h
 exact ByteArray.ext (Array.toList_inj.1 h)
theorem yI {L:List ByteArray} {s:ByteArray}:Gc L s=true↔s∈L:=by
 unfold Gc
 rw [List.any_eq_true]
 constructor
 ·rintro ⟨x,hx,e⟩
  rw [bytes_inj (beq_iff_eq.1 e)];exact hx
 ·exact fun h=>⟨s,h,by simp⟩
theorem wD (L:List ByteArray) (s:ByteArray):Lib.containsS L s=Gc L s:=by
 rw [Bool.eq_iff_iff,yI,Lib.containsS_iff]
theorem M1 {no:Nat→Prop} {w:World} {L:List ByteArray} {v:Value} (h:A9 (D8 no w) (Ai Aw L) v) (s:ByteArray):Calls Tryz.prog 44 #[v,.string s] w fun e w'=>e=.returned (.bool (Gc L s))∧w'=w:=by
 by_cases hL:L=[]
 ·subst hL
  obtain ⟨a,cap,rfl⟩:=Fo h
  exact Any.slices_Contains_string_empty vT a cap s w
 obtain ⟨b,off,cap,rfl,hb,-,hc⟩:=Qk h hL
 have hle:L.length≤9223372036854775807:=by
  unfold Ai at h
  generalize Az Aw L=es at h
  generalize L.length=q at*
  cases h with
  |Dy a cap ex he hm hn=>omega
  |Dh hb h hc hn he hm=>simp only [maxLen] at hm;omega
 have:=Any.slices_Contains_string vT b off L.length cap L s w (Nat.le_refl _) hle (fun j hj=>by
  have:=hc j L[j] (List.getElem?_eq_getElem hj) 0 (.string L[j]) (by decide) rfl
  rw [show off+(j*Aw.size+0)=off+j by show off+(j*1+0)=_;omega] at this
  rw [this]
  simp [List.getD,hj])
 rw [List.take_length,wD] at this
 exact this
theorem X4 {no:Nat→Prop} {W:World} {names:List ByteArray} {nv:Value} {bx:Nat} (hb:Bx W bx 29 nv) (h:A9 (D8 no W) (Ai Aw names) nv) (s:ByteArray):FnGives Tryz.prog 51 #[.pointer (some ⟨bx,0,none⟩)] #[.string s] (.bool (Gc names s)) W:=by
 show Calls Tryz.prog 51 #[.string s,.pointer (some ⟨bx,0,none⟩)] W _
 have hc:=hb.cell
 have hcc:=M1 h s
 clear h hb
 go_enter Tryz.func51,Tryz.ntmps51
 go_wp2_with fail
 refine hcc.mono ?_
 rintro e w' ⟨rfl,rfl⟩
 clear hcc
 go_wp2_with fail
 go_ret
 exact ⟨rfl,0,rfl⟩
theorem Acn (s:List ByteArray):(Ln s).length=s.length:=by simp [Ln]
theorem Um {α:Type} [Inhabited α] {E:En α} (hE:kJ E) {w:World} {g ty:Nat} {cur:Array Value} {l:List α} (q3:w.heap[g]?=some (.cells cur ty (0,0))) (hle:l.length*E.size≤cur.size) (q7:cur.toList.take (l.length*E.size)=(Az E l).map b7) (n:Nat) (d:Array α) (hsz:d.size=l.length) (os:Array Obj):
  ∃arr',(sortWorldK (C2 E) E.size w g 0 n d os).heap[g]?=some (.cells arr' ty (0,0))∧arr'.size=cur.size∧arr'.toList.take (l.length*E.size)=(Az E d.toList).map b7∧Oo (fun k=>k=g) w (sortWorldK (C2 E) E.size w g 0 n d os):=by
 have hlt:=Ck q3
 have hsp:cur.toList=(Az E l).map b7++cur.toList.drop (l.length*E.size):=by rw [← q7,List.take_append_drop]
 have hf:=Kb hE (D8 (fun _=>False) w) l.toArray
 have e0:(flatK (C2 E) E.size l.toArray).toList=(Az E l).map b7:=M4 (Gf hE.sc _) hf
 have hrow:HoldsK (C2 E) E.size w g 0 l.toArray:=Kq hE q3 ⟨(Az E l).map b7,hsp,D8 (fun _=>False) w,by rw [← e0];exact hf⟩
 have hbut:=Mc (C2 E) E.size w g 0 n d os
 obtain ⟨arr',b1,b2⟩:=hbut.Bd cur ty q3
 have hold2:=holdsK_sortWorldK_c (C2 E) E.size w g 0 l.toArray d n os hrow hlt (by rw [hsz];simp)
 generalize sortWorldK (C2 E) E.size w g 0 n d os=W at*
 have hfl:(flatK (C2 E) E.size d).size=l.length*E.size:=by rw [size_flatK,hsz]
 have hflt:(flatK (C2 E) E.size d).toList=(Az E d.toList).map b7:=M4 (Gf hE.sc _) (Kb hE (D8 (fun _=>False) w) d)
 refine ⟨arr',b1,b2,?_,⟨hbut.os,hbut.tape,hbut.output,hbut.size,fun b hb hno=>hbut.xF b hb (fun e=>hno e),Lk hbut.drawn⟩⟩
 rw [← hflt]
 refine List.ext_getElem? fun t=> ?_
 rw [List.getElem?_take]
 split
 ·rename_i ht
  have:=(hold2 t (by rw [hfl];omega)).1
  unfold World.cell? at this
  simp only [b1,Option.isSome_none,Bool.false_eq_true,if_false,Nat.zero_add,id] at this
  rw [Array.getElem?_toList,this,Array.getElem?_toList]
  have hs2:t<(flatK (C2 E) E.size d).size:=by omega
  rw [Array.getElem?_eq_getElem hs2,getElem!_pos _ t hs2]
 ·rename_i ht
  rw [Array.getElem?_toList,Array.getElem?_eq_none (by omega)]
theorem Ut:∀s:List ByteArray,(Az Aw s).map b7=Ln s
 |[]=>rfl
 |a::s=>by rw [Ch,List.map_append,Ut s];rfl
theorem Ye {w:World} {g:Nat} {cur:Array Value} {s:List ByteArray} (q3:w.heap[g]?=some (.cells cur 9 (0,0))) (hle:s.length≤cur.size) (q7:cur.toList.take (s.length*1)=Ln s) (n:Nat) (d:Array ByteArray) (hsz:d.size=s.length) (os:Array Obj):
  ∃arr',(sortWorldK (C2 Aw) Aw.size w g 0 n d os).heap[g]?=some (.cells arr' 9 (0,0))∧arr'.size=cur.size∧arr'.toList.take s.length=Ln d.toList∧Oo (fun k=>k=g) w (sortWorldK (C2 Aw) Aw.size w g 0 n d os):=by
 obtain ⟨arr',h1,h2,h3,h4⟩:=Um b5 q3 (by show s.length*1≤_;omega) (by rw [Ut];exact q7) n d hsz os
 rw [Ut] at h3
 have h3:arr'.toList.take (s.length*1)=_:=h3
 rw [Nat.mul_one] at h3
 exact ⟨arr',h1,h2,h3,h4⟩
theorem Uq (w:World) (Bd off:Nat) (d:Array ByteArray):putRow Value.string w Bd off d=putRowK (C2 Aw) Aw.size w Bd off d:=by
 unfold putRowK putRow
 congr 1
 funext c
 unfold putCells
 have hs:(flatK (C2 Aw) Aw.size d).size=d.size:=by rw [size_flatK];show d.size*1=_;omega
 congr 1
 funext k x
 rw [hs]
 by_cases h:off≤k∧k<off+d.size
 ·rw [if_pos h,if_pos h,Ph d _ (by omega)]
  rfl
 ·rw [if_neg h,if_neg h]
theorem Aiw (g j:Nat):(⟨g,0,none⟩:Addr).add j=⟨g,j,none⟩:=by unfold Addr.add;split<;>simp_all
theorem xM {no:Nat→Prop} {w:World} {base bx:Nat} {v nv:Value} {s names:List ByteArray} (h:F6 w base v s) (hne:s≠[]) (hn:s.length≤1000) (hb:Bx w bx 29 nv) (hr:A9 (D8 no w) (Ai Aw names) nv) (h1:v.ownBlock≠some bx) (h2:∀k,v.ownBlock=some k→no k):
  Calls Tryz.prog 50 #[v,.func (.func 51) #[] #[.pointer (some ⟨bx,0,none⟩)]] w fun e w'=>∃v',e=.returned v'∧F6 w' base v' (s.filter fun x=> !Gc names x)∧v'.ownBlock=v.ownBlock∧Oo (fun k=>v.ownBlock=some k) w w':=by
 rcases h.2 with ⟨q1,q2⟩|⟨g,cap,cur,rfl,q2,q3,q4,q5,q6,q7⟩
 ·exact absurd (List.eq_nil_of_length_eq_zero q2) hne
 have hlt:=Ck q3
 have hgb:g≠bx:=fun e=>h1 (by rw [e];rfl)
 have hno:no g:=h2 g rfl
 have hsp:cur.toList=Ln s++cur.toList.drop (s.length*1):=by rw [← q7,List.take_append_drop]
 have hH:Holds Value.string w g 0 s.toArray:=fun j hj=>by
  have hj':j<s.length:=by simpa using hj
  have hu:(Ln s)[j]?=some (.string s[j]):=by simp [Ln,hj']
  refine ⟨?_,?_⟩
  ·have:=h.cells (g:=g) rfl j _ hu
   rw [Aiw] at this
   rw [Nat.zero_add,this,getElem!_pos _ j hj]
   simp
  ·rw [Nat.zero_add];exact h.frozenAt j
 have keep:∀W:World,(∀k,k<w.heap.size→k≠g→W.heap[k]?=w.heap[k]?)→w.heap.size≤W.heap.size→Bx W bx 29 nv∧A9 (D8 no W) (Ai Aw names) nv:=fun W hk hs=>by
  refine ⟨(hk bx (Ck hb) (fun e=>hgb e.symm)).trans hb,?_⟩
  refine hr.Hp (c:=D8 no w) (c':=D8 no W) (fun b ⟨r1,r2,r3⟩=>⟨Nat.lt_of_lt_of_le r1 hs,Gg b,r3⟩) (fun b o vs ⟨r1,r2,r3⟩ hc j u hj=> ?_) (Cq _ _)
  rw [← hc j u hj]
  simp only [World.cell?]
  rw [show (D8 no W).w=W from rfl,hk b r1 (fun e=>r3 (by rw [e];exact hno))]
  rfl
 have hcall:=AnyE.slices_DeleteFunc Akh Value.string (fun _=>rfl) (Gc names) 51 #[.pointer (some ⟨bx,0,none⟩)] (H7 ⟨Tryz.f51,_,Tryz.func51,rfl,by kernel_rfl⟩) ByteArray.empty Tryz.zeroValue9 g 0 cap s.toArray w
  (fun W x hW=>by
   obtain ⟨k1,k2⟩:=keep W (fun k hk _=>hW.block k hk) hW.size
   exact X4 k1 k2 x)
  (fun n os dk x hs=>by
   have hk:=Ye q3 (by omega) q7 n dk (by simpa using hs) os
   have e1:sortWorld Value.string w g 0 n dk os=sortWorldK (C2 Aw) Aw.size w g 0 n dk os:=by unfold sortWorld sortWorldK;rw [Uq]
   obtain ⟨arr',-,-,-,hkn⟩:=hk
   rw [e1]
   obtain ⟨k1,k2⟩:=keep _ (fun k hk hne=>hkn.Bd k hk hne) hkn.size
   exact X4 k1 k2 x)
  hH (by rw [List.size_toArray];omega) (by rw [List.size_toArray];exact q4)
 change Calls Tryz.prog 50 _ _ _ at hcall
 rw [show s.toArray.size=s.length by simp] at hcall
 refine hcall.mono ?_
 rintro e w' ⟨rfl,n,rfl⟩
 have hfl:(s.filter fun x=> !Gc names x).length≤s.length:=List.length_filter_le _ _
 generalize hF:(s.filter fun x=> !Gc names x)=F at*
 obtain ⟨D,hD⟩:∃D,(F++List.replicate (s.length-F.length) ByteArray.empty).toArray=D:=⟨_,rfl⟩
 have hDs:D.size=s.length:=by rw [← hD];simp;omega
 have hDl:D.toList=F++List.replicate (s.length-F.length) ByteArray.empty:=by rw [← hD]
 have hk:=Ye q3 (by omega) q7 n D hDs #[]
 have e1:putRow Value.string (Sort.ahead w n) g 0 D=sortWorldK (C2 Aw) Aw.size w g 0 n D #[]:=by unfold sortWorldK;rw [Uq,grow_empty]
 rw [hD,e1]
 obtain ⟨arr',k1,k2,k3,k4⟩:=hk
 refine ⟨_,rfl,⟨by rw [Acn];omega,.inr ⟨g,cap,arr',rfl,q2,k1,by omega,q5,by rw [k2];exact q6,?_⟩⟩,rfl,k4.mono (fun k hk=>by rw [hk];rfl)⟩
 have:arr'.toList.take F.length=(arr'.toList.take s.length).take F.length:=by rw [List.take_take,Nat.min_eq_left hfl]
 rw [Nat.mul_one,this,k3,hDl]
 show (List.map Value.string _).take _=_
 rw [List.map_append,List.take_left' (by simp)]
 rfl
set_option maxHeartbeats 1000000 in
theorem kD (a b:ByteArray) (u v:Value) (hu:u.oneCell'=true) (hv:v.oneCell'=true) (W:World):Calls Tryz.prog 122 #[.agg #[.string a,u],.agg #[.string b,v]] W fun e w'=>e=.returned (.int .i64 (Lib.compareBytes a.data.toList b.data.toList))∧Kept W w':=by
 have hC:=fun w':World=>Any.strings_Compare Akp a b w'
 have c1:∀x y:Value,(((W.alloc (.cells #[.string a,u] 37)).alloc (.cells #[.string b,v] 37)).cell? ⟨W.heap.size,0,none⟩=some (.string a))∧(((W.alloc (.cells #[.string a,u] 37)).alloc (.cells #[.string b,v] 37)).cell? ⟨W.heap.size+1,0,none⟩=some (.string b)):=fun x y=>by
  have h1:=World.alloc_heap_new W (.cells #[.string a,u] 37)
  have h2:=World.alloc_heap_new (W.alloc (.cells #[.string a,u] 37)) (.cells #[.string b,v] 37)
  rw [World.size_alloc] at h2
  have h3:=(Below.heap_alloc (W.alloc (.cells #[.string a,u] 37)) (.cells #[.string b,v] 37) _ (Ck h1)).trans h1
  exact ⟨by simp only [World.cell?,h3];rfl,by simp only [World.cell?,h2];rfl⟩
 obtain ⟨c1,c2⟩:=c1 u v
 have hk:Kept W ((W.alloc (.cells #[.string a,u] 37)).alloc (.cells #[.string b,v] 37)):=((Kept.refl W).al _).al _
 go_enter Tryz.func122,Tryz.ntmps122
 go_wp2_with fail
 refine (hC _).mono ?_
 rintro e w' ⟨rfl,rfl⟩
 go_wp2_with fail
 go_ret
 exact ⟨rfl,hk⟩
def ZOk (z:Ab×Value):Prop:=∃a n c,z.2=.slice a n c
instance:Inhabited {z:Ab×Value // ZOk z}:=⟨⟨(⟨ByteArray.empty,[]⟩,.slice none 0 0),none,0,0,rfl⟩⟩
def Xj:En {z:Ab×Value // ZOk z} where
 size:=2
 enc z:=[.sc (.string z.1.1.Position),.sc z.1.2]
 len _:=rfl
 pos:=by decide
 cell z:=rfl
 Cs z:=rfl
 Vr z:=rfl
theorem Ak5:kJ Xj:=by
 intro z c hc
 simp only [Xj,List.mem_cons,List.not_mem_nil,or_false] at hc
 rcases hc with rfl|rfl
 ·exact ⟨_,rfl,rfl⟩
 ·obtain ⟨a,n,c,h⟩:=z.2
  exact ⟨_,rfl,by rw [h];rfl⟩
theorem iI:∀S:List {z:Ab×Value // ZOk z},(Az Xj S).map b7=Ea (S.map (·.1))
 |[]=>rfl
 |z::S=>by
  rw [Ch,List.map_append,iI S,List.map_cons];rfl
def uY (a b:Ab):Option Int:=some (Lib.compareBytes a.Position.data.toList b.Position.data.toList)
theorem jH (zs:List (Ab×Value)):(Ea zs).length=zs.length*2:=by
 induction zs with
 |nil=>rfl
 |cons z zs ih=>unfold Ea at*;rw [List.flatMap_cons,List.length_append,ih,List.length_cons];simp;omega
theorem oY {w:World} {base:Nat} {v:Value} {zs:List (Ab×Value)} {r:List Ab} (h:w.ownsRow base 37 2 v zs.length (Ea zs)) (hok:∀z∈zs,ZOk z) (hne:zs≠[]) (hn:zs.length≤1000) (hs:Gs uY (zs.map (·.1))=some r):
  Calls Tryz.prog 121 #[v,.func (.func 122) #[] #[]] w fun e w'=>e=.returned (.tuple #[])∧∃zs':List (Ab×Value),zs'.map (·.1)=r∧zs'.Perm zs∧w'.ownsRow base 37 2 v zs'.length (Ea zs')∧Oo (fun k=>v.ownBlock=some k) w w':=by
 rcases h.2 with ⟨q1,q2⟩|⟨g,cap,cur,rfl,q2,q3,q4,q5,q6,q7⟩
 ·exact absurd (List.eq_nil_of_length_eq_zero q2) hne
 have hlt:=Ck q3
 obtain ⟨S,hS⟩:∃S:List {z:Ab×Value // ZOk z},S.map (·.1)=zs:=⟨zs.attachWith ZOk hok,List.attachWith_map_subtype_val hok⟩
 have hSl:S.length=zs.length:=by rw [← hS,List.length_map]
 obtain ⟨p1,p2,ho⟩:=Ho hs
 let β:={s:{z:Ab×Value // ZOk z} // s∈S}
 have inh:Inhabited β:=by
  cases S with
  |nil=>exact absurd hS.symm hne
  |cons x l=>exact ⟨⟨x,by simp⟩⟩
 let cf:β→β→Int:=fun x y=>(uY x.1.1.1 y.1.1.1).getD 0
 have mem:∀x:β,x.1.1.1∈zs.map (·.1):=fun x=>List.mem_map.2 ⟨x.1.1,by rw [← hS];exact List.mem_map.2 ⟨x.1,x.2,rfl⟩,rfl⟩
 have hlt2:∀x y:β,ltOf cf x y=K9 uY x.1.1.1 y.1.1.1:=fun x y=>rfl
 have hO:SWO (ltOf cf):=⟨fun x=>by rw [hlt2];exact ho.irr (mem x),fun x y z a b=>by rw [hlt2] at*;exact ho.tra _ (mem x) _ (mem y) _ (mem z) a b,fun x y z a b=>by rw [hlt2] at*;exact ho.nle (mem x) (mem y) (mem z) a b⟩
 have hat:(S.attach.map (·.1))=S:=List.attach_map_subtype_val S
 have hla:S.attach.length=S.length:=List.length_attach
 have hEok:kJ (Kp Xj (·∈S)):=fun x c hc=>Ak5 x.1 c hc
 have he:(Az (Kp Xj (·∈S)) S.attach).map b7=Ea zs:=by rw [Qn,hat,iI,hS]
 have q7':cur.toList.take (S.attach.length*(Kp Xj (·∈S)).size)=(Az (Kp Xj (·∈S)) S.attach).map b7:=by
  rw [he,hla,hSl];exact q7
 have hle':S.attach.length*(Kp Xj (·∈S)).size≤cur.size:=by
  rw [hla,hSl,q6];exact Nat.mul_le_mul_right 2 q4
 have hrow:HoldsK (C2 (Kp Xj (·∈S))) (Kp Xj (·∈S)).size w g 0 S.attach.toArray:=by
  have hf:=Kb hEok (D8 (fun _=>False) w) S.attach.toArray
  have e0:(flatK (C2 (Kp Xj (·∈S))) (Kp Xj (·∈S)).size S.attach.toArray).toList=(Az (Kp Xj (·∈S)) S.attach).map b7:=M4 (Gf hEok.sc _) hf
  exact Kq hEok q3 ⟨(Az (Kp Xj (·∈S)) S.attach).map b7,by rw [← q7',List.take_append_drop],D8 (fun _=>False) w,by rw [← e0];exact hf⟩
 have hlay:CmpLays Tryz.prog 122 #[] (C2 (Kp Xj (·∈S))) (Kp Xj (·∈S)).size cf g 0 S.attach.toArray.size w:=by
  intro m os dk hsz x y
  obtain ⟨xa,xn,xc,hx⟩:=x.1.2
  obtain ⟨ya,yn,yc,hy⟩:=y.1.2
  refine (kD x.1.1.1.Position y.1.1.1.Position x.1.1.2 y.1.1.2 (by rw [hx];rfl) (by rw [hy];rfl) (sortWorldK (C2 (Kp Xj (·∈S))) (Kp Xj (·∈S)).size w g 0 m dk os)).mono ?_
  rintro e w' ⟨rfl,hk⟩
  exact ⟨rfl,Vm hk.os hk.tape hk.output hk.size (fun b hb=>hk.Bd b hb) (lQ rfl hk.drawn)⟩
 have hcall:=uU β (C2 (Kp Xj (·∈S))) (U4 _) (Pd hEok) cf hO 122 #[] g 0 cap S.attach.toArray w (H7 ⟨Tryz.f122,_,Tryz.func122,rfl,by kernel_rfl⟩) hlay hrow hlt (by rw [List.size_toArray,hla,hSl];omega)
 rw [List.size_toArray,hla,hSl] at hcall
 refine hcall.mono ?_
 rintro e w' ⟨rfl,n,os,rfl⟩
 obtain ⟨s1,s2,s3⟩:=Lq hO S.attach
 have hsz0:S.attach.toArray.size=zs.length:=by rw [List.size_toArray,hla,hSl]
 unfold Gj at s1 s2 s3
 rw [hsz0] at s1 s2 s3
 generalize hd:pdq (ltOf cf) S.attach.toArray 0 zs.length (Lib.bitLen zs.length) true true=d at*
 have hdl:d.toList.length=S.attach.length:=s1
 obtain ⟨arr',k1,k2,k3,k4⟩:=Um hEok q3 hle' q7' n d (by rw [← Array.length_toList];exact hdl) os
 have hZ:(Az (Kp Xj (·∈S)) d.toList).map b7=Ea ((d.toList.map (·.1)).map (·.1)):=by rw [Qn,iI]
 have hzl:((d.toList.map (·.1)).map (·.1)).length=zs.length:=by rw [List.length_map,List.length_map,hdl,hla,hSl]
 have pz:((d.toList.map (·.1)).map (·.1)).Perm zs:=by
  have:=(s2.map (·.1)).map (·.1)
  rw [hat,hS] at this
  exact this
 refine ⟨rfl,(d.toList.map (·.1)).map (·.1),?_,pz,⟨by rw [jH],.inr ⟨g,cap,arr',by rw [hzl],q2,k1,by omega,q5,by rw [k2];exact q6,?_⟩⟩,k4.mono (fun k hk=>by rw [hk];rfl)⟩
 ·refine Hi (R:=fun a b=>K9 uY b a=false) (fun x hx y hy a b=> ?_) ((pz.map _).trans p1.symm) ?_ p2
  ·have mx:x∈zs.map (·.1):=(pz.map _).mem_iff.1 hx
   have my:y∈zs.map (·.1):=(pz.map _).mem_iff.1 hy
   rcases ho.tot x mx y my with k|k|k
   ·rw [k] at b;cases b
   ·rw [k] at a;cases a
   ·exact k
  ·rw [List.pairwise_map,List.pairwise_map,List.pairwise_map]
   exact s3
 ·rw [hzl,← hZ,← k3,hla,hSl]
  rfl
end Go.Proofs.YtmechmjjcgdpdaaGreatDoor
set_option linter.unusedVariables false
set_option linter.unusedSimpArgs false
namespace Go.Proofs.YtmechmjjcgdpdaaGreatDoor
open Go.RowKit Go.Shelf
theorem H8 {P:Program} (w:World) {ops:Array Oper} {rest:List Oper} {o:Oper} {a:Act} {Q:Exit→Act→World→Prop} (hgd:o.guard=none) (s x:Operand) (t:TypeId)
  (ho:o.op=.call {callee:=.builtin .append,args:=#[s,x],argTypes:=#[t,t]})
  (base:Nat) (e:TypeId) (i:TypeInfo) (z:Value) (size bytes:Nat) (ht:P.underlying t=some (.slice e)) (hi:P.info? e=some i) (hz:i.zero=some z)
  (hsize:i.size=size) (hby:i.bytes=bytes) (hzs:z.cells.size=size) (hsz:0<size)
  (v:Value) (n:Nat) (xs:List Value) (hs:a.eval s=v) (hown:w.ownsRow base e size v n xs)
  (ad:Addr) (m c:Nat) (news:List Value) (hx:a.eval x=.slice (some ad) m c) (hl:news.length=m*size) (hnews:∀j u,news[j]?=some u→w.cell? (ad.add j)=some u) (h1:∀u∈news,u.oneCell'=true)
  (h63:n+m≤maxLen) (hbytes:(n+m)*bytes≤140737488355328) (hbase:base≤w.heap.size)
  (h:∀v' w',w'.ownsRow base e size v' (n+m) (xs++news)→w.grownBy w' v.ownBlock→(∀b,v'.ownBlock=some b→v.ownBlock=some b∨w.heap.size≤b)→w.drawn≤w'.drawn→wpList P ops Q rest (a.put o.dst v') w'):wpList P ops Q (o::rest) a w:=
 wpList_plain hgd fun _ hK=>by
  obtain ⟨v',w',hr,h2,h3,h4⟩:=Pt (P:=P) w base t o.type e i z size bytes ht hi hz hsize hby hzs hsz v n xs hown ad m c news hl hnews h1 h63 hbytes hbase
  have hd:=Dc P _ _ _ _ hr
  unfold Oper.wp execOp
  simp only [ho,resolve,invoke,builtin,Sem.run_bind,Sem.run_pure,Result.andThen_ok,List.map_toArray,List.map_cons,List.map_nil,hs,hx,hr]
  exact hK _ _ (h v' w' h2 h3 h4 hd)
theorem qJ {α:Type} {E:En α} {no:Nat→Prop} {w:World} {L:List α} {v:Value} (h:A9 (D8 no w) (Ai E L) v):L.length≤9223372036854775807:=by
 unfold Ai at h
 generalize Az E L=es at h
 generalize L.length=q at*
 cases h with
 |Dy a cap ex he hm hn=>omega
 |Dh hb h hc hn he hm=>simp only [maxLen] at hm;omega
theorem pX {p:ByteArray→Bool} {l:List ByteArray} {j:Nat} {s:ByteArray} (h:l[j]?=some s):(l.take (j+1)).filter p=(l.take j).filter p++(if p s=true then [s] else []):=by
 obtain ⟨hj,hs⟩:=List.getElem?_eq_some_iff.1 h
 rw [List.take_succ_eq_append_getElem hj,List.filter_append,hs]
 congr 1
 cases hp:p s<;>simp [hp]
theorem Abh (a b:List ByteArray):Ln (a++b)=Ln a++Ln b:=List.map_append
theorem u6 {w5 wq w8:World} {to s:ByteArray} {sv v8:Value} {F:List ByteArray} (hkq:Kept w5 wq) (hs:w5.heap.size+1≤wq.heap.size) (hb:wq.heap[w5.heap.size]?=some (.cells #[.string to,sv] 37 (0,0))) (hv:F6 wq (w5.heap.size+1) sv F)
  (o:Obj) (hown:w8.ownsRow (w5.heap.size+1) 9 1 v8 (F++[s]).length (Ln (F++[s]))) (hg:(wq.alloc o).grownBy w8 sv.ownBlock) (hd:(wq.alloc o).drawn≤w8.drawn):
  w8.heap[w5.heap.size]?=some (.cells #[.string to,sv] 37 (0,0))∧Kept w5 (w8.setCell ⟨w5.heap.size,1,none⟩ v8)∧w5.heap.size+1≤(w8.setCell ⟨w5.heap.size,1,none⟩ v8).heap.size∧(w8.setCell ⟨w5.heap.size,1,none⟩ v8).heap[w5.heap.size]?=some (.cells #[.string to,v8] 37 (0,0))∧F6 (w8.setCell ⟨w5.heap.size,1,none⟩ v8) (w5.heap.size+1) v8 (F++[s]):=by
 have hne:some w5.heap.size≠sv.ownBlock:=fun e=>by have:=Zn hv _ e.symm;omega
 have hb8:w8.heap[w5.heap.size]?=some (.cells #[.string to,sv] 37 (0,0)):=by
  rw [hg.block w5.heap.size (by rw [World.size_alloc];omega) hne,Below.heap_alloc _ _ _ (by omega)]
  exact hb
 have hk8:Kept w5 w8:=Jn (hkq.al o) hg (fun b hb=>by have:=Zn hv b hb;omega) hd
 have hsz:w5.heap.size+1≤w8.heap.size:=by have:=hg.size;rw [World.size_alloc] at this;omega
 refine ⟨hb8,hk8.set _ (Nat.le_refl _) _,by simpa using hsz,?_,Ke hown _ _ fun q=> ?_⟩
 ·exact Ww hb8 1 v8
 ·have:w5.heap.size+1≤w5.heap.size:=Zn hown _ q
  omega
theorem pO {V w6:World} {base gb I L cap B:Nat} {l:List Ab} {ps:List (ByteArray×Value)} {x:Ab} {px:ByteArray} {v0 v':Value} {s:List ByteArray} (hc:aA V base gb l ps)
  (ho:V.ownsRow B 37 2 (.slice (some ⟨gb,0,none⟩) L cap) L (Eo ps)) (hx:l[I]?=some x) (hq:ps[I]?=some (px,v0)) (hk:Oo (fun k=>v0.ownBlock=some k) V w6) (hv:F6 w6 base v' s) (hb:v'.ownBlock=v0.ownBlock):
  w6.heap[gb]?=V.heap[gb]?∧aA (w6.setCell ⟨gb,I*2+1,none⟩ v') base gb (l.set I ⟨x.Position,s⟩) (ps.set I (px,v'))∧(w6.setCell ⟨gb,I*2+1,none⟩ v').ownsRow B 37 2 (.slice (some ⟨gb,0,none⟩) L cap) L (Eo (ps.set I (px,v'))):=by
 have hout:=hc.out
 have hgb:w6.heap[gb]?=V.heap[gb]?:=hk.Bd gb (ho.lt gb rfl).2 (fun e=>by have:=(hc.Bd hq gb e).1;omega)
 refine ⟨hgb,hc.put hx hq (fun k r b hk' hr hb'=> ?_) (Ke hv _ _ fun q=> ?_),?_⟩
 ·have hbb:=hc.Bd hr b hb'
  have hne:v0.ownBlock≠some b:=fun q=>hk' (hc.sep k I r _ b hr hq hb' q)
  refine ⟨?_,fun q=>hne (by rw [← hb];exact q)⟩
  rw [Below.heap_setCell _ _ _ _ (by show b≠gb;omega)]
  exact hk.Bd b hbb.2 hne
 ·rw [hb] at q
  have:base≤gb:=(hc.Bd hq _ q).1
  omega
 ·have h1:=(Mi (W':=w6) ho (fun b hb=>by cases hb;exact hgb)).stored (2*I+1) v'
  rw [Lc ps I px v0 v' hq,Nat.mul_comm 2 I] at h1
  exact h1.1
theorem rB {W7 w9:World} {base gb:Nat} {l7:List Ab} {ps7:List (ByteArray×Value)} {to:ByteArray} {Y:List ByteArray} {sv:Value} {o:Obj} (hc:aA W7 base gb l7 ps7) (hsv:F6 W7 base sv Y) (hg:(W7.alloc o).grownBy w9 (some gb)):
  ∃zs:List (Ab×Value),zs.map (·.1)=l7++[⟨to,Y⟩]∧Ea zs=Eo ps7++[.string to,sv]∧∀z∈zs,F6 w9 base z.2 z.1.Ak∧∀k,z.2.ownBlock=some k→k≠gb∧k<W7.heap.size:=by
 obtain ⟨zs,h1,h2,h3⟩:=hc.zip
 have hout:=hc.out
 have key:∀(v:Value) (s:List ByteArray),F6 W7 base v s→F6 w9 base v s∧∀k,v.ownBlock=some k→k≠gb∧k<W7.heap.size:=fun v s h=>by
  have hl:=h.lt
  refine ⟨Gi h fun b hb=> ?_,fun k hk=>⟨by have:=(hl k hk).1;omega,(hl k hk).2⟩⟩
  have:=hl b hb
  rw [hg.block b (by rw [World.size_alloc];omega) (fun e=>by have:=Option.some.inj e;omega),Below.heap_alloc _ _ _ this.2]
 refine ⟨zs++[(⟨to,Y⟩,sv)],by rw [List.map_append,h1];rfl,by unfold Ea at*;rw [List.flatMap_append,h2];rfl,fun z hz=> ?_⟩
 rcases List.mem_append.1 hz with hz|hz
 ·exact key _ _ (h3 z hz)
 ·rw [List.mem_singleton.1 hz]
  exact key _ _ hsv
theorem qN {w9 w10:World} {base gb S:Nat} {zs zs2:List (Ab×Value)} {v9:Value} (hS:S≤w9.heap.size) (hz:∀z∈zs,F6 w9 base z.2 z.1.Ak∧∀k,z.2.ownBlock=some k→k≠gb∧k<S) (hp:zs2.Perm zs) (hk:Oo (fun k=>v9.ownBlock=some k) w9 w10) (hf:∀b,v9.ownBlock=some b→b=gb∨S≤b):
  ∀z∈zs2,F6 w10 base z.2 z.1.Ak:=fun z hz2=>by
 obtain ⟨h1,h2⟩:=hz z (hp.mem_iff.1 hz2)
 refine Gi h1 fun b hb=>hk.Bd b (h1.lt b hb).2 fun q=> ?_
 have:=h2 b hb
 rcases hf b q with e|e<;>omega
theorem W5 (W:World) (x y:Value) (T:TypeId):∀j u,([x,y]:List Value)[j]?=some u→(W.alloc (.cells #[x,y] T)).cell? ((⟨W.heap.size,0,none⟩:Addr).add j)=some u:=by
 intro j u hu
 have hh:(W.alloc (.cells #[x,y] T)).heap[W.heap.size]?=some (.cells #[x,y] T (0,0)):=World.alloc_heap_new W _
 rw [show (⟨W.heap.size,0,none⟩:Addr).add j=⟨W.heap.size,j,none⟩ by unfold Addr.add;split<;>simp_all]
 match j,hu with
 |0,hu=>simp only [World.cell?,hh];simpa using hu
 |1,hu=>simp only [World.cell?,hh];simpa using hu
 |j+2,hu=>simp at hu
theorem Sm {w:World} {base:Nat} {v:Value} {zs:List (Ab×Value)} {r:List Ab} (h:w.ownsRow base 37 2 v zs.length (Ea zs)) (hok:∀z∈zs,ZOk z) (hne:zs≠[]) (hn:zs.length≤1000) (hs:Gs uY (zs.map (·.1))=some r):
  Calls Tryz.prog 45 #[v] w fun e w'=>e=.returned (.tuple #[])∧∃zs':List (Ab×Value),zs'.map (·.1)=r∧zs'.Perm zs∧w'.ownsRow base 37 2 v zs'.length (Ea zs')∧Oo (fun k=>v.ownBlock=some k) w w':=by
 have hc:=oY h hok hne hn hs
 obtain ⟨a,cap,rfl⟩:=Dj h
 clear h
 generalize zs.length=L at*
 go_enter Tryz.func45,Tryz.ntmps45
 go_wp2_with fail
 refine hc.mono ?_
 rintro e w' ⟨rfl,hw⟩
 clear hc
 go_wp2_with fail
 exact bodyPost_end (results_none rfl _ _ _) rfl ⟨rfl,hw⟩
set_option maxRecDepth 100000 in
set_option maxHeartbeats 16000000 in
theorem eS {w:World} {n:Nat} {l:List Ab} {from_ to:ByteArray} {names:List ByteArray} {t:ρ9} (h:g9 n l from_ to names=some t) {lv nv:Value} (hG:B2 KK.gl (D8 (fun _=>False) w)) (hl:A9 (D8 (fun _=>False) w) (Ai Ab.E l) lv) (hn:A9 (D8 (fun _=>False) w) (Ai Aw names) nv):
  Calls Tryz.prog 9 #[lv,.string from_,.string to,nv] w fun e w'=>∃v',e=.returned (.tuple #[v',.int .i64 t.2])∧Kept w w'∧A9 (D8 (fun k=>k<w.heap.size) w') (Ai Ab.E t.1) v':=by
 obtain ⟨la,lc,rfl⟩:=Fo hl
 obtain ⟨na,nc,rfl⟩:=Fo hn
 unfold g9 at h
 obtain ⟨e0,he0,h⟩:=Option.bind_eq_some_iff.1 h
 have hcK:=fun W (hk:Kept w W)=>Js (Adt he0) (w:=w) hG (.cons hl .nil) W hk
 have nilrel:∀W:World,A9 (D8 (fun k=>k<w.heap.size) W) (Ai Ab.E []) (.slice none 0 0):=fun W=> .Dy none 0 false (fun h=>by cases h) (Nat.zero_le _) (fun _=>rfl)
 by_cases h0:e0=0
 case neg=>
  rw [bne_iff_ne.2 h0,cond_true] at h
  cases h
  have hb:(e0 !=0)=true:=bne_iff_ne.2 h0
  clear hl hn he0
  generalize hL:l.length=L at*
  generalize hN:names.length=N at*
  go_enter Tryz.func9,Tryz.ntmps9
  go_wp2_with fail
  refine (hcK _ ((Kept.refl w).al _)).mono ?_
  rintro e w1 ⟨v1,rfl,hk1,hv1⟩
  obtain rfl:=Jp hv1
  clear hcK hv1
  go_wp2_with fail
  refine bodyPost_ret (results_tmp2 rfl _ _ _) rfl ?_
  exact ⟨_,rfl,((Kept.refl w).al _).trans hk1,nilrel _⟩
 subst h0
 rw [show ((0:Int) !=0)=false from rfl,cond_false] at h
 obtain ⟨i,hi,h⟩:=Option.bind_eq_some_iff.1 h
 have hcI:=fun W (hK:Kept w W)=>Js (Afs hi) (w:=w) hG (.cons hl (.cons (.sc _ rfl) .nil)) W hK
 replace h:=Lib.hid h
 have HL:=Lib.hid (And.intro hl hn)
 have hN63:=qJ hn
 clear hl hn he0 hi
 change Int at i
 generalize hL:l.length=L at*
 generalize hN:names.length=N at*
 go_enter Tryz.func9,Tryz.ntmps9
 go_wp2_with fail
 refine (hcK _ ((Kept.refl w).al _)).mono ?_
 rintro e w1 ⟨v1,rfl,hk1,hv1⟩
 obtain rfl:=Jp hv1
 have hb1:=(Bx.new w 29 (.slice na N nc)).kept hk1
 have hk01:Kept w w1:=((Kept.refl w).al _).trans hk1
 have hB1:=Lib.hid hb1
 clear hb1
 go_wp2_with fail
 refine (hcI w1 hk01).mono ?_
 rintro e w2 ⟨v2,rfl,hk2,hv2⟩
 obtain rfl:=Jp hv2
 have hk02:=hk01.trans hk2
 clear hcK hcI hv1 hv2
 by_cases hi0:i<0
 ·have h:=h.out
  rw [if_pos hi0] at h
  cases h
  go_wp2_with fail
  refine bodyPost_ret (results_tmp2 rfl _ _ _) rfl ?_
  exact ⟨_,rfl,hk02,nilrel _⟩
 have h2:=h.out
 rw [if_neg hi0] at h2
 obtain ⟨b,hb,h2⟩:=Option.bind_eq_some_iff.1 h2
 have hcN:=fun W (hK:Kept w W)=>Js (vH hb) (w:=w) hG (.cons (.sc _ rfl) .nil) W hK
 clear h
 have H2:=Lib.hid h2
 clear h2 hb
 go_wp2_with fail
 refine (hcN w2 hk02).mono ?_
 rintro e w3 ⟨v3,rfl,hk3,hv3⟩
 obtain rfl:=mL hv3
 have hk03:=hk02.trans hk3
 clear hcN hv3
 cases b with
 |false=>
  have h:=H2.out
  rw [Bool.not_false,cond_true] at h
  cases h
  go_wp2_with fail
  refine bodyPost_ret (results_tmp2 rfl _ _ _) rfl ?_
  exact ⟨_,rfl,hk03,nilrel _⟩
 |true=>
 have h3:=H2.out
 rw [Bool.not_true,cond_false] at h3
 obtain ⟨k,hk,h3⟩:=Option.bind_eq_some_iff.1 h3
 have hcJ:=fun W (hK:Kept w W)=>Js (Afs hk) (w:=w) hG (.cons HL.out.1 (.cons (.sc _ rfl) .nil)) W hK
 change Int at k
 clear H2
 have H3:=Lib.hid h3
 clear h3 hk
 go_wp2_with fail
 refine (hcJ w3 hk03).mono ?_
 rintro e w4 ⟨v4,rfl,hk4,hv4⟩
 obtain rfl:=Jp hv4
 have hk04:=hk03.trans hk4
 clear hcJ hv4
 by_cases hk0:k≥0
 ·have h:=H3.out
  rw [if_pos hk0] at h
  cases h
  go_wp2_with fail
  refine bodyPost_ret (results_tmp2 rfl _ _ _) rfl ?_
  exact ⟨_,rfl,hk04,nilrel _⟩
 have h4:=H3.out
 rw [if_neg hk0] at h4
 obtain ⟨x,hx,h4⟩:=Option.bind_eq_some_iff.1 h4
 clear H3
 obtain ⟨I,rfl⟩:∃I:Nat,i=(I:Int):=⟨i.toNat,(Int.toNat_of_nonneg (by omega)).symm⟩
 rw [Int.toNat_natCast] at hx h4
 have hxL:=O1 hx
 rw [hL] at hxL
 have hb4:Bx w4 w.heap.size 29 (.slice na N nc):=hB1.out.kept ((hk2.trans hk3).trans hk4)
 have hbc:=hb4.cell
 have hne:l≠[]:=by rintro rfl;cases hx
 obtain ⟨lb,lo,lcap,hlv,hlb,-,hcl⟩:=rV (((hk04.gH _)).rel HL.out.1 (Cq _ _)) hne
 rw [hL] at hlv
 cases hlv
 obtain ⟨xv,hxc,hxr⟩:=hcl I x hx 1 (Ai Aw x.Ak) (by decide) rfl
 obtain ⟨xa,xc,rfl⟩:=Fo hxr
 have hxc:w4.cell? ⟨lb,lo+I*2+1,none⟩=some (.slice xa x.Ak.length xc):=hxc
 have hcX:=fun s=>M1 hxr s
 have HX:=Lib.hid (And.intro hx (And.intro h4 hxr))
 have HC:=Lib.hid hcl
 have hIL:(I:Int)<(L:Int):=by omega
 clear hx h4 hxr hcl
 generalize hSx:x.Ak.length=Sx at*
 go_wp2_with fail
 go_loopw [13,40] (fun u i wr=>∃j:Nat,j≤N∧i=.int .i64 j∧w4=wr∧Hid (∀k,k<j→∀s,names[k]?=some s→Gc x.Ak s=true)) (fun _ i=>fun _=>N-(intOf i).toNat)
 case atStart=>exact ⟨0,Nat.zero_le _,rfl,rfl,Lib.hid (fun k hk=>absurd hk (Nat.not_lt_zero _))⟩
 case round=>
  obtain ⟨j,hj,rfl,rfl,hall⟩:=hrel
  by_cases hlt:j<N
  ·have hs:names[j]?=some names[j]:=List.getElem?_eq_getElem (by omega)
   generalize names[j]=s at hs
   have hnr:A9 (D8 (fun _=>False) w4) (Ai Aw names) (.slice na N nc):=(hk04.gH _).rel HL.out.2 (Cq _ _)
   obtain ⟨nb,no_,ncap,hnv,hnb,-,hcn⟩:=Qk hnr (by rintro rfl;cases hs)
   rw [hN] at hnv
   cases hnv
   have hsc:w4.cell? ⟨nb,no_+j,none⟩=some (.string s):=by
    have:=hcn j s hs 0 (.string s) (by decide) rfl
    rwa [show no_+(j*Aw.size+0)=no_+j by show no_+(j*1+0)=_;omega] at this
   have hcs:=hcX s
   have d1:(j:Int)<(N:Int):=by omega
   clear hnr hcn hcX
   have HS:=Lib.hid hs
   clear hs
   cases hq:Gc x.Ak s with
   |false=>
    rw [hq] at hcs
    have HQ:=Lib.hid hq
    clear hq
    go_wp2_with fail
    refine hcs.mono ?_
    rintro e w' ⟨rfl,rfl⟩
    clear hcs
    go_wp2_with fail
    refine bodyPost_ret (results_tmp2 rfl _ _ _) rfl ?_
    have h:=HX.out.2.1
    rw [Bool.eq_false_iff.2 (show names.all (Gc x.Ak)≠true from fun q=>by
     have:=List.all_eq_true.1 q s (List.mem_of_getElem? HS.out)
     rw [HQ.out] at this
     cases this),Bool.not_false,cond_true] at h
    cases h
    exact ⟨_,rfl,hk04,nilrel _⟩
   |true=>
    rw [hq] at hcs
    have HQ:=Lib.hid hq
    clear hq
    go_wp2_with fail
    refine hcs.mono ?_
    rintro e w' ⟨rfl,rfl⟩
    clear hcs
    go_wp2_with fail
    refine ⟨⟨j+1,hlt,by rw [show (j:Int)+1=((j+1:Nat):Int) by omega],by first|rfl|trivial,Lib.hid fun k hk s' hs'=> ?_⟩,by simp [intOf];omega⟩
    rcases Nat.lt_succ_iff_lt_or_eq.1 hk with q|rfl
    ·exact hall.out k q s' hs'
    ·rw [HS.out] at hs'
     cases hs'
     exact HQ.out
  ·obtain rfl:j=N:=by omega
   have hlt':¬(j:Int)<(j:Int):=by omega
   have hyes:names.all (Gc x.Ak)=true:=by
    rw [List.all_eq_true]
    intro s hs
    obtain ⟨k,hk⟩:=List.getElem?_of_mem hs
    exact hall.out k (by have:=O1 hk;omega) s hk
   have h5:=HX.out.2.1
   rw [hyes,Bool.not_true,cond_false] at h5
   have hx:=HX.out.1
   have hxr:=HX.out.2.2
   clear hcX HX hall hyes
   split at h5
   case isFalse=>cases h5
   rename_i hroom
   have hne':l≠[]:=by rintro rfl;cases hx
   have hcCp:=fun W (hK:Kept w W)=>Pp ((hK.gH _).rel HL.out.1 (Cq _ _)) hne' (by omega) (fun g hg=>(hroom.2.2 g hg).1)
   rw [hL] at hcCp
   have HX:=Lib.hid (And.intro hx (And.intro h5 (And.intro hxr hroom)))
   clear hx h5 hxr hne'
   go_wp2_with fail
   refine (hcCp w4 hk04).mono ?_
   rintro e w5 ⟨gb,cap,ps,base,rfl,hk5,hg1,hown,hcps,hbs⟩
   clear hcCp
   have hk05:=hk04.trans hk5
   have HXC:=Lib.hid (fun W (hk:Kept w4 W)=>(hk.cell (a:=⟨lb,lo+I*2+1,none⟩) hlb).trans hxc)
   have hxc5:(w5.alloc (.cells #[.string to,.slice none 0 0] 37)).cell? ⟨lb,lo+I*2+1,none⟩=some (.slice xa Sx xc):=(((hk5.al _)).cell hlb).trans hxc
   have CE:=Lib.hid (And.intro hcps (And.intro hown (And.intro hg1 hbs)))
   have hB4:=Lib.hid hb4
   clear hcps hown hxc hbc hb4
   obtain ⟨i0,hi,hzz⟩:=Option.bind_eq_some_iff.1 bT
   obtain ⟨z0,hz0,hzz⟩:=Option.map_eq_some_iff.1 hzz
   simp only [Prod.mk.injEq] at hzz
   obtain ⟨hzc,hz1,hz2⟩:=hzz
   have hSx1:Sx≤1000:=hroom.2.1
   go_wp2_with fail
   go_loopw [17,63] (fun u i wq=>∃(j:Nat) (sv:Value),j≤Sx∧i=.int .i64 j∧Kept w5 wq∧w5.heap.size+1≤wq.heap.size∧Hid (wq.heap[w5.heap.size]?=some (.cells #[.string to,sv] 37 (0,0)))∧Hid (F6 wq (w5.heap.size+1) sv ((x.Ak.take j).filter (Gc names)))) (fun _ i=>fun _=>Sx-(intOf i).toNat)
   case atStart=>exact ⟨0,.slice none 0 0,Nat.zero_le _,rfl,(Kept.refl _).al _,by simp,Lib.hid (World.alloc_heap_new _ _),Lib.hid (World.ownsRow_nil _ _ _ _)⟩
   case round=>
    obtain ⟨m,sv,hm,rfl,hkq,hsq,hbq,hrq⟩:=hrel
    have hbx:=(hB4.out.kept (hk5.trans hkq)).cell
    by_cases hlt:m<Sx
    ·obtain ⟨sa,sc,rfl⟩:=Dj hrq.out
     obtain ⟨g1,g2⟩:=lG hbq.out
     have hs:x.Ak[m]?=some x.Ak[m]:=List.getElem?_eq_getElem (by omega)
     generalize x.Ak[m]=s at hs
     have hxq:=((hk5.trans hkq).gH _).rel HX.out.2.2.1 (Cq _ _)
     obtain ⟨xb,xo,xcap,hxv,hxb,-,hcx⟩:=Qk hxq (by rintro e;rw [e] at hs;cases hs)
     rw [hSx] at hxv
     cases hxv
     have hsc:wr.cell? ⟨xb,xo+m,none⟩=some (.string s):=by
      have:=hcx m s hs 0 (.string s) (by decide) rfl
      rwa [show xo+(m*Aw.size+0)=xo+m by show xo+(m*1+0)=_;omega] at this
     have hcs:=M1 (((hk05.trans hkq).gH _).rel HL.out.2 (Cq _ _)) s
     have d1:(m:Int)<(Sx:Int):=by omega
     have hFl:((x.Ak.take m).filter (Gc names)).length≤1000:=by
      have:=List.length_filter_le (Gc names) (x.Ak.take m)
      rw [List.length_take] at this
      omega
     have hfs:=pX (p:=Gc names) hs
     have HS:=Lib.hid (And.intro hs hfs)
     clear hs hfs hcx hxq
     generalize hF:(x.Ak.take m).filter (Gc names)=F at*
     cases hq:Gc names s with
     |false=>
      rw [hq] at hcs
      have HQ:=Lib.hid hq
      clear hq
      go_wp2_with fail
      refine hcs.mono ?_
      rintro e w' ⟨rfl,rfl⟩
      clear hcs
      go_wp2_with fail
      refine ⟨⟨m+1,_,hlt,by rw [show (m:Int)+1=((m+1:Nat):Int) by omega],hkq,hsq,hbq,?_⟩,by simp [intOf];omega⟩
      refine Lib.hid ?_
      rw [HS.out.2,if_neg (by rw [HQ.out];decide),List.append_nil]
      exact hrq.out
     |true=>
      rw [hq] at hcs
      have HQ:=Lib.hid hq
      clear hq
      have hrow:=hrq.out
      have HR:=hrq
      go_wp2_with fail
      refine hcs.mono ?_
      rintro e w' ⟨rfl,rfl⟩
      clear hcs
      go_wp2_with (at_builtin;refine H8 _ rfl _ _ 29 rfl (w5.heap.size+1) 9 i0 z0 1 16 Tryz.underlying29 hi hz0 hz1 hz2 hzc (by decide) (.slice sa F.length sc) F.length (Ln F) rfl ?c0 ⟨w'.heap.size,0,none⟩ 1 1 [.string s] rfl rfl ?c1 ?c2 ?c3 ?c4 ?c5 ?_)
      case c0=>exact hrow.alloc _
      case c1=>exact Ao4 _ _ _
      case c2=>intro u hu;rw [List.mem_singleton.1 hu];rfl
      case c3=>simp only [maxLen];omega
      case c4=>omega
      case c5=>rw [World.size_alloc];omega
      intro v8 w8 hown8 hgrow8 hfr8 hdr8
      obtain ⟨va,vc,rfl⟩:=Dj hown8
      have hfin:=u6 hkq hsq hbq.out hrow (.cells #[.string s] 9) (by rw [Abh,List.length_append];exact hown8) hgrow8 hdr8
      obtain ⟨hb8,hfin⟩:=hfin
      obtain ⟨z1,z2⟩:=lG hb8
      have z3:w8.frozen? ⟨w5.heap.size,1,none⟩=false:=by simp [World.frozen?,hb8]
      have FIN:=Lib.hid hfin
      clear hfin hb8 hrow hown8 hgrow8 hfr8 hdr8
      go_wp2_with fail
      refine ⟨⟨m+1,_,hlt,by rw [show (m:Int)+1=((m+1:Nat):Int) by omega],FIN.out.1,FIN.out.2.1,Lib.hid FIN.out.2.2.1,?_⟩,by simp [intOf];omega⟩
      refine Lib.hid ?_
      rw [HS.out.2,if_pos (by rw [HQ.out])]
      exact FIN.out.2.2.2
    ·have hmS:Sx=m:=by omega
     subst hmS
     have hrY:=hrq.out
     rw [List.take_of_length_le (by omega)] at hrY
     obtain ⟨sa,sc,rfl⟩:=Dj hrY
     obtain ⟨g1,g2⟩:=lG hbq.out
     have hxc8:=HXC.out wr (hk5.trans hkq)
     have h5:=HX.out.2.1
     have hlt':¬(Sx:Int)<(Sx:Int):=by omega
     have HRY:=Lib.hid hrY
     clear hrY hrq
     have HYL:=Lib.hid (List.length_filter_le (Gc names) x.Ak)
     generalize hY:x.Ak.filter (Gc names)=Y at*
     generalize hy:Y.length=y at*
     by_cases hy0:y=0
     ·rw [if_pos (.inl hy0)] at h5
      subst hy0
      cases h5
      go_wp2_with fail
      go_quiet (fail)
      go_wp2_with fail
      refine bodyPost_ret (results_tmp2 rfl _ _ _) rfl ?_
      exact ⟨_,rfl,by first|exact hk05.trans hkq|exact (hk05.trans hkq).drewN _,nilrel _⟩
     have hyz:((y:Int)==0)=false:=beq_eq_false_iff_ne.2 (by omega)
     by_cases hyS:y=Sx
     ·rw [if_pos (.inr hyS)] at h5
      subst hyS
      cases h5
      go_wp2_with fail
      go_quiet (fail)
      go_wp2_with fail
      refine bodyPost_ret (results_tmp2 rfl _ _ _) rfl ?_
      exact ⟨_,rfl,by first|exact hk05.trans hkq|exact (hk05.trans hkq).drewN _,nilrel _⟩
     have hyT:((y:Int)==(Sx:Int))=false:=beq_eq_false_iff_ne.2 (by omega)
     rw [if_neg (not_or.2 ⟨hy0,hyS⟩)] at h5
     go_wp2_with fail
     go_quiet (fail)
     have hkV:Kept w5 (wr.drewN nq):=hkq.trans ((Kept.refl wr).drewN nq)
     have hcV:aA (wr.drewN nq) base gb l ps:=(CE.out.1.cpx hL.symm).Hp fun k q b hq hb=>hkV.Bd b ((CE.out.1.cpx hL.symm).Bd hq b hb).2
     have hoV:=Kd CE.out.2.1 hkV
     have hyV:F6 (wr.drewN nq) (w5.heap.size+1) (.slice sa y sc) Y:=Kd HRY.out ((Kept.refl wr).drewN nq)
     have hgV:(wr.drewN nq).heap[w5.heap.size]?=some (.cells #[.string to,.slice sa y sc] 37 (0,0)):=hbq.out
     have hxV:Bx (wr.drewN nq) w.heap.size 29 (.slice na j nc):=hB4.out.kept (hk5.trans hkV)
     have hbs:=CE.out.2.2.2
     have CE0:=CE
     have hg1:=CE.out.2.2.1
     have hx:=HX.out.1
     have hyl:=HYL.out
     have hbx4:=Ck hB4.out
     obtain ⟨r,hr,ht⟩:=Option.map_eq_some_iff.1 h5
     clear hbx g1 g2 hxc8 HXC hbq HRY hxc5 h5 hkq hsq CE
     generalize wr.drewN nq=V at*
     obtain ⟨q,hq⟩:∃q,ps[I]?=some q:=⟨_,List.getElem?_eq_getElem (by rw [hcV.len,hL];exact hxL)⟩
     have hrowx:=(hcV.row I x q hx hq).2
     obtain ⟨px,vx⟩:=q
     obtain ⟨xa',xc',rfl⟩:=Dj hrowx
     have hk0V:Kept w V:=hk05.trans hkV
     have hout:=hcV.out
     have hws:=hk04.size
     have hw5:=hk5.size
     have hcD:=xM (no:=fun k=>w.heap.size≤k) (names:=names) (nv:=.slice na j nc) (bx:=w.heap.size) hrowx (by rintro e;rw [e] at hSx;have:=(hroom.2.2 x (List.mem_of_getElem? hx)).2;rw [e] at this;simp at this) (by omega) hxV ((hk0V.gH _).rel (Aa3 HL.out.2 (Cq _ _)) (Cq _ _)) (fun e=>by have:=(hcV.Bd hq _ e).1;omega) (fun k hk=>by have:=(hcV.Bd hq k hk).1;show w.heap.size≤k;omega)
     rw [hSx] at hcD hq hrowx
     have c1:V.cell? ⟨gb,I*2+1,none⟩=some (.slice xa' Sx xc'):=by
      rw [Nat.mul_comm,hoV.cellAt (2*I+1) (by omega)]
      exact (Hf hq).2
     have HV:=Lib.hid (And.intro hcV (And.intro hoV (And.intro hyV (And.intro hgV (And.intro hx (And.intro hr (And.intro ht (And.intro hq (And.intro hk0V hkV)))))))))
     clear hcV hoV hyV hgV hx hr ht hq hxV hrowx hk0V hkV
     go_wp2_with fail
     refine hcD.mono ?_
     rintro e w6 ⟨v6,rfl,hrow6,hvb6,hk6⟩
     clear hcD c1
     obtain ⟨hcV,hoV,hyV,hgV,hx,hr,ht,hq,hk0V,hkV⟩:=HV.out
     obtain ⟨hb6,hc7,ho7⟩:=pO hcV hoV hx hq hk6 hrow6 hvb6
     have hxblk:∀b,(Value.slice xa' Sx xc').ownBlock=some b→base≤b∧b<w5.heap.size:=fun b hb=>by
      have:=(CE0.out.1.cpx hL.symm).Bd hq b hb
      exact this
     have u1:w6.cell? ⟨gb,I*2+1,none⟩=some (.slice xa' Sx xc'):=by
      have h1:V.cell? ⟨gb,I*2+1,none⟩=some (.slice xa' Sx xc'):=by
       rw [Nat.mul_comm,hoV.cellAt (2*I+1) (by omega)]
       exact (Hf hq).2
      rw [← h1]
      simp only [World.cell?,hb6]
     have u2:w6.frozen? ⟨gb,I*2+1,none⟩=false:=by
      have h1:V.frozen? ⟨gb,I*2+1,none⟩=false:=by rw [Nat.mul_comm];exact hoV.frozenAt (2*I+1)
      rw [← h1]
      simp only [World.frozen?,hb6]
     have hgb5:gb<w5.heap.size:=by omega
     have h57:w5.heap.size≤V.heap.size:=hkV.size
     have hkw6:Kept w w6:=hk6.kept hk0V.size (fun k hk=>by have:=(hxblk k hk).1;omega) hk0V
     have hkw7:=hkw6.set ⟨gb,I*2+1,none⟩ (by show w.heap.size≤gb;omega) v6
     have hgV5:=Ck hgV
     have hg7:(w6.setCell ⟨gb,I*2+1,none⟩ v6).heap[w5.heap.size]?=some (.cells #[.string to,.slice sa y sc] 37 (0,0)):=by
      rw [Below.heap_setCell _ _ _ _ (by show w5.heap.size≠gb;omega),hk6.Bd _ hgV5 (fun e=>by have:=(hxblk _ e).2;omega)]
      exact hgV
     have hy7:F6 (w6.setCell ⟨gb,I*2+1,none⟩ v6) base (.slice sa y sc) Y:=by
      have:=Gi (W':=w6.setCell ⟨gb,I*2+1,none⟩ v6) hyV fun b hb=>by
       have hb':=hyV.lt b hb
       rw [Below.heap_setCell _ _ _ _ (by show b≠gb;omega),hk6.Bd b hb'.2 (fun e=>by have:=(hxblk _ e).2;omega)]
      exact eK this (fun b hb=>by have:=(this.lt b hb).1;omega)
     have hs7:w5.heap.size+1≤(w6.setCell ⟨gb,I*2+1,none⟩ v6).heap.size:=by have:=Ck hg7;omega
     have hvS:v6=v6:=rfl
     obtain ⟨va6,vc6,hv6⟩:=Dj hrow6
     have HW:=Lib.hid (And.intro hc7 (And.intro ho7 (And.intro hg7 (And.intro hy7 (And.intro hkw7 (And.intro hr (And.intro ht hs7)))))))
     clear hcV hoV hyV hgV hx hr ht hq hk0V hkV hc7 ho7 hg7 hy7 hkw6 hkw7 hb6 hrow6 HV hvS
     subst hv6
     generalize (x.Ak.filter fun s=> !Gc names s).length=n6 at*
     obtain ⟨p1,p2⟩:=lG HW.out.2.2.1
     obtain ⟨i1,hj,hzz⟩:=Option.bind_eq_some_iff.1 Yp
     obtain ⟨y1,hy0',hzz⟩:=Option.map_eq_some_iff.1 hzz
     simp only [Prod.mk.injEq] at hzz
     obtain ⟨hyc,hy1,hy2⟩:=hzz
     have ho7:=HW.out.2.1
     go_wp2_with (at_builtin;refine H8 _ rfl _ _ 33 rfl w.heap.size 37 i1 y1 2 40 Tryz.underlying33 hj hy0' hy1 hy2 hyc (by decide) (.slice (some ⟨gb,0,none⟩) L cap) L (Eo (ps.set I (px,.slice va6 n6 vc6))) rfl ?c0 ⟨w6.heap.size,0,none⟩ 1 1 [.string to,.slice sa y sc] rfl rfl ?c1 ?c2 ?c3 ?c4 ?c5 ?_)
     case c0=>exact (iR ho7 hws).alloc _
     case c1=>
      intro j u hu
      have:=W5 (w6.setCell ⟨gb,I*2+1,none⟩ (.slice va6 n6 vc6)) (.string to) (.slice sa y sc) 37 j u hu
      simpa using this
     case c2=>
      intro u hu
      rcases List.mem_cons.1 hu with rfl|hu
      ·rfl
      ·rw [List.mem_singleton.1 hu];rfl
     case c3=>simp only [maxLen];omega
     case c4=>omega
     case c5=>
      have:=HW.out.2.2.2.2.1.size
      rw [World.size_alloc]
      omega
     intro v9 w9 hown9 hgrow9 hfr9 hdr9
     obtain ⟨hc7,ho7',hg7,hy7,hkw7,hr,ht,hs7⟩:=HW.out
     have hd7:(w6.setCell ⟨gb,I*2+1,none⟩ (.slice va6 n6 vc6)).drawn≤w9.drawn:=hdr9
     have hf7:∀b,v9.ownBlock=some b→b=gb∨(w6.setCell ⟨gb,I*2+1,none⟩ (.slice va6 n6 vc6)).heap.size≤b:=fun b hb=>by
      rcases hfr9 b hb with q|q
      ·left;cases q;rfl
      ·right;simp at q ⊢;omega
     generalize hW7:w6.setCell ⟨gb,I*2+1,none⟩ (.slice va6 n6 vc6)=W7 at*
     obtain ⟨zs,hz1,hz2,hz3⟩:=rB hc7 hy7 hgrow9
     have hkw9:Kept w w9:=Jn (hkw7.al _) hgrow9 (fun b hb=>by cases hb;show w.heap.size≤gb;omega) hd7
     rw [← hz2] at hown9
     have hzl:zs.length=L+1:=by rw [← List.length_map (f:=(·.1)),hz1,List.length_append,List.length_set,hL];rfl
     have hfr9':=hf7
     have hW7s:=hkw7.size
     have hS9:W7.heap.size≤w9.heap.size:=by have:=hgrow9.size;rw [World.size_alloc] at this;omega
     have hcO:=Sm (w:=w9) (base:=w.heap.size) (v:=v9) (zs:=zs) (r:=r) (by rw [hzl];exact hown9) (fun z hz=>by obtain ⟨a,c,q⟩:=Dj (hz3 z hz).1;exact ⟨a,_,c,q⟩) (by rintro rfl;simp at hzl) (by omega) (by rw [hz1];exact hr)
     obtain ⟨va9,vc9,rfl⟩:=Dj hown9
     have HZ:=Lib.hid (And.intro hz3 (And.intro hkw9 (And.intro ht (And.intro hfr9' (And.intro hS9 hc7.out)))))
     have hgbw:w.heap.size≤gb:=by omega
     clear hc7 ho7' hg7 hy7 hkw7 hr ht hs7 hz1 hz2 hz3 hkw9 hown9 hgrow9 hfr9 hfr9' hf7 hd7 hdr9 hS9 ho7 hW7 p1 p2 u1 u2 hzl HW hxblk
     go_wp2_with fail
     refine hcO.mono ?_
     rintro e w10 ⟨rfl,zs2,hr2,hp2,hown10,hk10⟩
     clear hcO
     go_wp2_with fail
     refine bodyPost_ret (results_tmp2 rfl _ _ _) rfl ?_
     obtain ⟨hz3,hkw9,ht,hfr9',hS9,hout7⟩:=HZ.out
     subst ht
     have hrows:=qN hS9 hz3 hp2 hk10 hfr9'
     refine ⟨_,rfl,hk10.kept hkw9.size (fun k hk=> ?_) hkw9,?_⟩
     ·rcases hfr9' k hk with q|q<;>omega
     ·subst hr2
      exact bW (E:=Ab.E) (base:=w.heap.size) (by rw [List.length_map];exact hown10) (bJ (base:=base) (fun k hk=>by have hk:k<w.heap.size:=hk;omega) hrows) (fun k hk=>hk)
end Go.Proofs.YtmechmjjcgdpdaaGreatDoor
set_option linter.unusedVariables false
set_option linter.unusedSimpArgs false
namespace Go.Proofs.YtmechmjjcgdpdaaGreatDoor
open Go.RowKit Go.Shelf
theorem sg9 {n:Nat} {l:List Ab} {from_ to:ByteArray} {names:List ByteArray} {t:ρ9} (h:g9 n l from_ to names=some t):Cj Tryz.prog KK.gl 9 [Ai Ab.E l,Bq from_,Bq to,Ai Aw names] (.Bn [Ai Ab.E t.1,Aa t.2]):=by
 refine Nj ⟨Tryz.f9,_,Tryz.func9,rfl,by kernel_rfl⟩ (by simp [Ap,clean,Aj]) (by simp [clean,Ap,Aj]) fun B c vals g hgl hrel=> ?_
 cases hrel with
 |cons r1 hrel=>
 cases hrel with
 |cons r2 hrel=>
 cases hrel with
 |cons r3 hrel=>
 cases hrel with
 |cons r4 hrel=>
 cases hrel
 cases r2
 cases r3
 refine (eS h (iY hgl) (Ry r1 (Cq _ _)) (Ry r4 (Cq _ _))).mono ?_
 rintro e w' ⟨v',rfl,hk,hv⟩
 exact ⟨_,rfl,hk,.Bn (.cons (Zz g hv (Cq _ _)) (.cons (.sc _ rfl) .nil))⟩
end Go.Proofs.YtmechmjjcgdpdaaGreatDoor
