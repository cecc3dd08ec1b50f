/- A part. -/
import Derived.Test.YtmechmjjcgdpdaaGreatDoorPS
import Derived.Shelf.Slices.In.SortAlone
import Derived.Shelf.Slices.In.SortNone
set_option linter.unusedVariables false
set_option linter.unusedSimpArgs false
namespace Go.Proofs.YtmechmjjcgdpdaaGreatDoor
open Go.RowKit Go.Sort
def iL (P:Program) (f:Nat):Prop:=∀(Bd off cap:Nat) (ss:List (List UInt8)) (w:World),Holds encStr w Bd off ss.toArray→Bd<w.heap.size→ss.length<4611686018427387904→
 Calls P f #[.slice (some ⟨Bd,off,none⟩) ss.length cap] w fun e w'=>e=.returned (.tuple #[])∧∃n os,w'=grow (putRow encStr (Sort.ahead w n) Bd off (ss.mergeSort fun x y=>decide (x≤y)).toArray) os
def k9 (P:Program) (f:Nat):Prop:=∀(p:Option Addr) (cap:Nat) (w:World),Calls P f #[.slice p 0 cap] w fun e w'=>e=.returned (.tuple #[])∧w'=w
def C8 (s:ByteArray):List UInt8:=s.data.toList
def Gp (b:List UInt8):ByteArray:=⟨b.toArray⟩
theorem S4 (s:ByteArray):Gp (C8 s)=s:=by simp [Gp,C8]
theorem S2 (b:List UInt8):C8 (Gp b)=b:=by simp [Gp,C8]
def Dr (l:List ByteArray):List ByteArray:=((l.map C8).mergeSort fun x y=>decide (x≤y)).map Gp
theorem Kg (l:List ByteArray):(Dr l).length=l.length:=by simp [Dr,List.length_mergeSort]
theorem Kz (l:List ByteArray):(Dr l).Perm l:=by
 have h:=(List.mergeSort_perm (l.map C8) fun x y=>decide (x≤y)).map Gp
 rw [List.map_map] at h
 have:l.map (Gp ∘ C8)=l:=by
  conv=>rhs;rw [← List.map_id l]
  exact List.map_congr_left fun s _=>S4 s
 rw [this] at h
 exact h
theorem b5:kJ Aw:=by
 intro x c hc
 simp only [Aw,List.mem_singleton] at hc
 subst hc
 exact ⟨_,rfl,rfl⟩
theorem u7 (s:ByteArray):C2 Aw s=[.string s]:=rfl
theorem Ph (d:Array ByteArray) (t:Nat) (ht:t<d.size):(flatK (C2 Aw) Aw.size d)[t]! =.string d[t]! :=by
 have e:Aw.size=1:=rfl
 rw [e,get_flatK _ _ _ _ (by omega)]
 simp [u7,Nat.mod_one]
theorem Xl {w:World} {Bd off:Nat} {l:List ByteArray} (h:HoldsK (C2 Aw) Aw.size w Bd off l.toArray):Holds encStr w Bd off (l.map C8).toArray:=by
 intro j hj
 have hj':j<l.length:=by simpa using hj
 have:=h j (by rw [size_flatK];show j<l.toArray.size*1;simp;exact hj')
 rw [Ph l.toArray j (by simpa using hj')] at this
 have e:encStr (l.map C8).toArray[j]! =id (Value.string l.toArray[j]!):=by
  rw [getElem!_pos _ j (by simpa using hj'),getElem!_pos _ j (by simpa using hj')]
  simp [encStr,C8]
 rw [e];exact this
theorem U9 (w:World) (Bd off:Nat) (bs:List (List UInt8)):putRow encStr w Bd off bs.toArray=putRowK (C2 Aw) Aw.size w Bd off (bs.map Gp).toArray:=by
 unfold putRowK putRow
 congr 1
 funext c
 unfold putCells
 have hs:(flatK (C2 Aw) Aw.size (bs.map Gp).toArray).size=bs.length:=by rw [size_flatK];show (bs.map Gp).toArray.size*1=_;simp
 congr 1
 funext k x
 rw [hs]
 have hs2:bs.toArray.size=bs.length:=by simp
 rw [hs2]
 by_cases h:off≤k∧k<off+bs.length
 ·rw [if_pos h,if_pos h,Ph _ _ (by simp;omega)]
  rw [getElem!_pos _ (k-off) (by simp;omega),getElem!_pos _ (k-off) (by simp;omega)]
  simp [encStr,Gp]
 ·rw [if_neg h,if_neg h]
theorem Nr {P:Program} {gl:Nat→Option (List AV)} {f:FuncId} (hS:iL P f) (hS0:k9 P f) (hpf:Dp P f) {m:Mem} {nx id ty:Nat} {l0 l:List ByteArray} (hl:l0.length=l.length) (hb:Ao m id=B9 Aw ty l) (hn:l.length<4611686018427387904)
  {K:AV→Mem→Prop} (hK:K (.Bn []) (Ac m [(id,B9 Aw ty (Dr l))])):
  Ep P gl m nx f [B3 Aw id l0] K:=by
 have hE:=b5
 have hlen:=Kg l
 cases l with
 |nil=>
  have h0:l0=[]:=List.eq_nil_of_length_eq_zero hl
  subst h0
  refine ⟨hpf,fun B c vals hg hgl hM ha hr=> ?_⟩
  cases hr with
  |cons r1 r2=>
   cases r2
   have key:∀(p:Option Addr) (cap:Nat),Calls P f #[.slice p 0 cap] c.w fun e w'=>∃v m',K v m'∧Fm B c v m' (nx+64) e w':=fun p cap=>(hS0 p cap c.w).mono fun e w' ⟨h1,h2⟩=>by
    subst h1;subst h2
    refine ⟨.Bn [],_,hK,.tuple #[],c,rfl,rfl,.Bn .nil,Step.refl c,hg,fun j=> ?_,fun j h=>Nat.lt_of_lt_of_le (ha j h) (Nat.le_add_right _ _)⟩
    have e:Dr []=[]:=List.eq_nil_of_length_eq_zero hlen
    rw [e]
    show c.M j=Ao ((id,none)::m) j
    rw [hM]
    by_cases hj:j=id
    ·subst hj;rw [aH,hb];rfl
    ·rw [Pa (fun e=>hj e.symm)]
   have r1:A9 c (.Dh 0 [] true) _:=r1
   cases r1 with
   |Dy a cap ex he hm hn=>exact key a cap
   |Dh hb h hc hn he hm=>exact key _ _
 |cons x l1=>
  have hne:l0≠[]:=by rintro rfl;simp at hl
  have hne':Dr (x::l1)≠[]:=by intro e;rw [e] at hlen;simp at hlen
  rw [C7 (by simp)] at hb
  rw [C7 hne'] at hK
  rw [Ev hne,hl]
  generalize hL:x::l1=l at*
  refine ⟨hpf,fun B c vals hg hgl hM ha hr=> ?_⟩
  have hMid:c.M id=some ⟨Az Aw l,ty⟩:=by rw [hM];exact hb
  cases hr with
  |cons r1 r2=>
   cases r2
   cases r1 with
   |sl hal hb2 hs hnc hc2 hex hmx=>
    rename_i cap' arr0 T0
    obtain ⟨arr,vs,rest,q1,q2,q3⟩:=hg.Bd id _ hMid
    have hlt:=hg.lt hMid
    have hrow:HoldsK (C2 Aw) Aw.size c.w (c.f id) 0 l.toArray:=Kq hE q1 ⟨vs,q2,c,q3⟩
    have hcall:=hS (c.f id) 0 cap' (l.map C8) c.w (Xl hrow) hlt (by simpa using hn)
    rw [List.length_map] at hcall
    refine hcall.mono ?_
    rintro e w' ⟨rfl,n,os,rfl⟩
    rw [U9]
    have hsl:Dr l=(((l.map C8).mergeSort fun x y=>decide (x≤y)).map Gp):=rfl
    rw [← hsl]
    have hW:grow (putRowK (C2 Aw) Aw.size (Sort.ahead c.w n) (c.f id) 0 (Dr l).toArray) os=sortWorldK (C2 Aw) Aw.size c.w (c.f id) 0 n (Dr l).toArray os:=rfl
    rw [hW]
    generalize hd:(Dr l).toArray=d at*
    have hsd:Dr l=d.toList:=by rw [← hd]
    have hbut:=Mc (C2 Aw) Aw.size c.w (c.f id) 0 n d os
    have hsz:d.size=l.length:=by rw [← hd];simpa using hlen
    obtain ⟨arr',b1,b2⟩:=hbut.Bd arr ty q1
    have hold2:=holdsK_sortWorldK_c (C2 Aw) Aw.size c.w (c.f id) 0 l.toArray d n os hrow hlt (by rw [hsz];simp)
    generalize sortWorldK (C2 Aw) Aw.size c.w (c.f id) 0 n d os=W at*
    let c':Cx:={c with w:=W,M:=fun j=>if j=id then some ⟨Az Aw (Dr l),ty⟩ else c.M j}
    have hown:∀b,c'.own b→c.own b:=by
     rintro b ⟨j,bk,j1,j2⟩
     by_cases hj:j=id
     ·subst hj;exact ⟨j,_,hMid,j2⟩
     ·simp only [c',hj,if_false] at j1;exact ⟨j,bk,j1,j2⟩
    have stp:Step c c':=⟨hbut.os,hbut.tape,hbut.output,hbut.size,fun b hb' hno=>hbut.xF b hb' (fun e=>hno ⟨id,_,hMid,e.symm⟩),fun b _ ho=>hown b ho,fun _ _=>rfl,fun _ h=>h,fun _=>Iff.rfl,fun b a T h=>by
     by_cases e:b=c.f id
     ·subst e;exact hbut.Bd a T h
     ·exact ⟨a,(hbut.xF b (Ck h) e).trans h,rfl⟩,Lk hbut.drawn⟩
    refine ⟨.Bn [],_,hK,.tuple #[],c',rfl,rfl,.Bn .nil,stp,⟨Nat.le_trans hg.hB hbut.size,fun j bk h=> ?_,fun j bk h=> ?_,hg.Lj,fun i j bi bj h h' hf=> ?_⟩,fun j=> ?_,fun j h=>Nat.lt_of_lt_of_le (ha j h) (Nat.le_add_right _ _)⟩
    ·by_cases hj:j=id
     ·subst hj;exact hg.low j _ hMid
     ·simp only [c',hj,if_false] at h;exact hg.low j bk h
    ·by_cases hj:j=id
     ·subst hj
      simp only [c',if_true,Option.some.injEq] at h
      subst h
      refine ⟨arr',(flatK (C2 Aw) Aw.size d).toList,arr'.toList.drop (d.size*Aw.size),b1,?_,?_⟩
      ·have hle:d.size*Aw.size≤arr'.toList.length:=by
        have h5:vs.length=l.length*Aw.size:=by rw [← q3.length,Bt]
        have h6:arr.toList.length=vs.length+rest.length:=by rw [q2,List.length_append]
        rw [Array.length_toList] at h6 ⊢
        rw [b2,hsz];omega
       have h7:arr'.toList.take (d.size*Aw.size)=(flatK (C2 Aw) Aw.size d).toList:=by
        refine List.ext_getElem? fun t=> ?_
        rw [List.getElem?_take]
        split
        ·rename_i ht
         have:=(hold2 t (by rw [size_flatK];exact ht)).1
         unfold World.cell? at this
         simp only [b1,Option.isSome_none,Bool.false_eq_true,if_false,Nat.zero_add,id] at this
         rw [Array.getElem?_toList,this,Array.getElem?_toList]
         have hs2:t<(flatK (C2 Aw) Aw.size d).size:=by rw [size_flatK];exact ht
         rw [Array.getElem?_eq_getElem hs2,getElem!_pos _ t hs2]
        ·rename_i ht
         rw [Array.getElem?_toList,Array.getElem?_eq_none (by rw [size_flatK];omega)]
       rw [← h7,List.take_append_drop]
      ·show Be c' (Az Aw (Dr l)) _
       rw [hsd];exact Kb hE c' d
     ·simp only [c',hj,if_false] at h
      obtain ⟨a,vs',r',k1,k2,k3⟩:=hg.Bd j bk h
      have hne:c.f j≠c.f id:=fun e=>hj (hg.inj j id _ _ h hMid e)
      exact ⟨a,vs',r',(hbut.xF (c.f j) (Ck k1) hne).trans k1,k2,k3.step stp⟩
    ·have hi:∃b,c.M i=some b:=by
      by_cases e:i=id
      ·subst e;exact ⟨_,hMid⟩
      ·simp only [c',e,if_false] at h;exact ⟨_,h⟩
     have hj:∃b,c.M j=some b:=by
      by_cases e:j=id
      ·subst e;exact ⟨_,hMid⟩
      ·simp only [c',e,if_false] at h';exact ⟨_,h'⟩
     obtain ⟨b1',hi⟩:=hi
     obtain ⟨b2',hj⟩:=hj
     exact hg.inj i j b1' b2' hi hj hf
    ·show (if j=id then _ else c.M j)=Ao ((id,some ⟨Az Aw (Dr l),ty⟩)::m) j
     by_cases hj:j=id
     ·subst hj;rw [if_pos rfl];simp [Ao]
     ·rw [if_neg hj,Pa (fun e=>hj e.symm),hM]
end Go.Proofs.YtmechmjjcgdpdaaGreatDoor
