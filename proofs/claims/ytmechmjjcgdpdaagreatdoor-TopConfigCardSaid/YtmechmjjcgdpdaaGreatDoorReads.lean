/- A part. -/
import Derived.Test.YtmechmjjcgdpdaaGreatDoorBase
import Derived.ProofKit
import Derived.OpenShut
import Derived.SizedLaws
import Derived.Deep.Slices
set_option linter.unusedVariables false
set_option linter.unusedSimpArgs false
namespace Go.Proofs.YtmechmjjcgdpdaaGreatDoor
open Go.RowKit Go.ChangeShapes Go.WideShapes Go.ChangeAt
inductive Sh where
 |unit|int|bool|str
 |sl (e:Sh)
 |pair (a b:Sh)
def Sh.size:Sh→Nat
 |.unit=>0
 |.int=>1
 |.bool=>1
 |.str=>1
 |.sl _=>1
 |.pair a b=>a.size+b.size
def Reads (W:World):Sh→List Value→Prop
 |.unit,cs=>cs=[]
 |.int,cs=>∃n:Int,cs=[.int .i64 n]∧-9223372036854775808≤n∧n≤9223372036854775807
 |.bool,cs=>∃b:Bool,cs=[.bool b]
 |.str,cs=>∃s:ByteArray,cs=[.string s]∧s.size≤maxLen
 |.sl e,cs=>∃(a:Option Addr) (n c:Nat),cs=[.slice a n c]∧n≤c∧c≤maxLen∧(a=none→c=0)∧
   (0<n→0<e.size→∃b off,a=some ⟨b,off,none⟩∧b<W.heap.size∧∀i,i<n→∃es:List Value,es.length=e.size∧(∀j,j<e.size→W.cell? ⟨b,off+(i*e.size+j),none⟩=es[j]?)∧Reads W e es)
 |.pair x y,cs=>∃xs ys,cs=xs++ys∧Reads W x xs∧Reads W y ys
mutual
def fits (P:Program):Nat→Sh→TypeId→Bool
 |0,_,_=>false
 |n+1,sh,t=>
  match P.underlying t,sh with
  |some (.int .i64),.int=>true
  |some .bool,.bool=>true
  |some .string,.str=>true
  |some (.slice e),.sl x=>fits P n x e && P.cellsOf e==x.size
  |some (.struct fs),x=>M0 P n x fs.toList 0 && P.cellsOf t==x.size
  |some (.array k e),x=>M0 P n x ((List.range k).map fun i=>({(default:Field) with type:=e,offset:=i*P.cellsOf e}:Field)) 0 && P.cellsOf t==x.size
  |_,_=>false
def M0 (P:Program):Nat→Sh→List Field→Nat→Bool
 |0,_,_,_=>false
 |n+1,sh,fs,off=>
  match sh,fs with
  |.unit,[]=>true
  |.pair a b,f::r=>fits P n a f.type && f.offset==off && P.cellsOf f.type==a.size && M0 P n b r (off+a.size)
  |_,_=>false
end
theorem wf_i64 {n:Int} (h:(Lit.int .i64 n).wf=true): -9223372036854775808≤n∧n≤9223372036854775807:=by
 simp [Lit.wf,IntKind.has,IntKind.min,IntKind.max,IntKind.signed,IntKind.bits] at h
 omega
theorem oW {H:Type} {enc:TypeId×Value→H} {P:Program} {W:World} {sp:Nat→Bool} {held:Bool}:∀(n:Nat),
  (∀(sh:Sh) (t:TypeId) (fuel:Nat) (cs:List Value) (x:DataW H×List MemPlace),fits P n sh t=true→DataW.trod enc P W 0 sp held fuel t cs=some x→Reads W sh cs∧cs.length=sh.size)∧
  (∀(sh:Sh) (fs:List Field) (off fuel:Nat) (cs:List Value) (xs:List (DataW H×List MemPlace)),M0 P n sh fs off=true→cs.length=off+sh.size→
   (∀(i:Nat) (f:Field),fs[i]?=some f→DataW.trod enc P W 0 sp held fuel f.type ((cs.drop f.offset).take (P.cellsOf f.type))=xs[i]?)→xs.length=fs.length→Reads W sh (cs.drop off)):=by
 intro n
 induction n with
 |zero=>exact ⟨fun sh t fuel cs x h=>by simp [fits] at h,fun sh fs off fuel cs xs h=>by simp [M0] at h⟩
 |succ n ih=>
  obtain ⟨ih1,ih2⟩:=ih
  refine ⟨?_,?_⟩
  ·intro sh t fuel cs x h hx
   unfold fits at h
   split at h
   ·rename_i hu
    obtain ⟨m,rfl,-,hw⟩:=DataW.trod_int hu hx
    exact ⟨⟨m,rfl,wf_i64 hw⟩,rfl⟩
   ·rename_i hu
    obtain ⟨b,rfl,-⟩:=DataW.trod_bool hu hx
    exact ⟨⟨b,rfl⟩,rfl⟩
   ·rename_i hu
    obtain ⟨s,rfl,-,hs⟩:=DataW.trod_string hu hx
    exact ⟨⟨s,rfl,hs⟩,rfl⟩
   ·rename_i e y hu
    simp only [Bool.and_eq_true,beq_iff_eq] at h
    obtain ⟨h1,h2⟩:=h
    rcases Deep.open_slice hu hx with ⟨rfl,-⟩|⟨a,len,cap,m,k,D,Pl,rfl,-,hl,hm,hmm,-,hi⟩
    ·exact ⟨⟨none,0,0,rfl,Nat.le_refl _,Nat.zero_le _,fun _=>rfl,fun h=>absurd h (by omega)⟩,rfl⟩
    ·refine ⟨⟨some a,len,cap,rfl,hl,hm,(fun h=>by cases h),fun hn hsz=> ?_⟩,rfl⟩
     have hlm:len≤m:=by rw [hmm];split<;>omega
     rw [h2] at hi
     have hspot:a.spot=none∧a.block<W.heap.size:=by
      obtain ⟨es,hes,-⟩:=hi 0 (by omega)
      obtain ⟨-,hel,hat⟩:=World.cells?_some hes
      have hc:=hat 0 hsz
      have h0:(a.add (0*y.size)).add 0=a:=by simp [Addr.add]
      rw [h0,List.getElem?_eq_getElem (by omega)] at hc
      exact ⟨by simpa using World.cell?_spot hc,by simpa using World.block_lt_of_cell? W _ hc⟩
     obtain ⟨b,off,s⟩:=a
     obtain ⟨hs,hb⟩:=hspot
     simp only at hs hb
     subst hs
     refine ⟨b,off,rfl,hb,fun i hin=> ?_⟩
     obtain ⟨es,hes,ht⟩:=hi i (by omega)
     obtain ⟨-,hel,hat⟩:=World.cells?_some hes
     refine ⟨es,hel,fun j hj=> ?_,(ih1 y e k es _ h1 ht).1⟩
     rw [← hat j hj,addr_add,addr_add,Nat.add_assoc]
   ·rename_i y fs hu
    simp only [Bool.and_eq_true,beq_iff_eq] at h
    obtain ⟨h1,h2⟩:=h
    obtain ⟨xs,m,-,-,hlen,hxl,hf⟩:=DataW.trod_struct hu hx
    rw [h2] at hlen
    refine ⟨?_,hlen⟩
    have:=ih2 _ fs.toList 0 m cs xs h1 (by rw [hlen];omega) (fun i f hif=>hf i f (by simpa using hif)) (by simpa using hxl)
    simpa using this
   ·rename_i y len e hu
    simp only [Bool.and_eq_true,beq_iff_eq] at h
    obtain ⟨h1,h2⟩:=h
    obtain ⟨xs,m,-,-,hlen,hxl,hf⟩:=DataW.trod_array hu hx
    rw [h2] at hlen
    refine ⟨?_,hlen⟩
    have:=ih2 _ _ 0 m cs xs h1 (by rw [hlen];omega) (fun i f hif=>by
     rw [List.getElem?_map] at hif
     cases hr:(List.range len)[i]? with
     |none=>rw [hr] at hif;cases hif
     |some q=>
      rw [hr] at hif
      have hi:i<len:=by
       rcases Nat.lt_or_ge i len with h|h
       ·exact h
       ·rw [List.getElem?_eq_none (by simpa using h)] at hr;cases hr
      rw [List.getElem?_range hi] at hr
      cases hr
      cases hif
      exact hf i hi) (by simpa using hxl)
    simpa using this
   ·cases h
  ·intro sh fs off fuel cs xs h hlen hf hxl
   unfold M0 at h
   split at h
   ·simp [Sh.size] at hlen
    simp [Reads,← hlen]
   ·rename_i a b f r
    simp only [Bool.and_eq_true,beq_iff_eq] at h
    obtain ⟨⟨⟨h1,h2⟩,h3⟩,h4⟩:=h
    have h0:=hf 0 f rfl
    rw [h2,h3] at h0
    simp [Sh.size] at hlen
    cases xs with
    |nil=>simp at hxl
    |cons x0 xr=>
     have hra:=ih1 a f.type fuel _ x0 h1 (by simpa using h0)
     refine ⟨(cs.drop off).take a.size,cs.drop (off+a.size),?_,hra.1,?_⟩
     ·rw [← List.drop_drop];exact (List.take_append_drop _ _).symm
     ·exact ih2 b r (off+a.size) fuel cs xr h4 (by omega) (fun i f' hi=>by simpa using hf (i+1) f' (by simpa using hi)) (by simpa using hxl)
   ·cases h
theorem Rw {H:Type} {enc:TypeId×Value→H} {P:Program} {W:World} {sp:Nat→Bool} {held:Bool} {t:TypeId} {v:Value} {d:DataW H} {p:List MemPlace} (sh:Sh) (hf:fits P 40 sh t=true) (h:DataW.Trod enc P W 0 sp held t v d p):Reads W sh v.cells.toList:=by
 obtain ⟨fuel,hx⟩:=h
 exact ((oW 40).1 sh t fuel _ _ hf hx).1
end Go.Proofs.YtmechmjjcgdpdaaGreatDoor
