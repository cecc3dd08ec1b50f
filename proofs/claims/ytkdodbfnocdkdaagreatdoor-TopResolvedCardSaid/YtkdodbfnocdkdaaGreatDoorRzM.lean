/- Parts RzP, RzR, RzF, RzV, Rz1, Rz2, Rz3. -/
import Derived.Test.YtkdodbfnocdkdaaGreatDoorRzC
import Derived.Test.YtkdodbfnocdkdaaGreatDoorRpH
import Derived.Lib.ItoaLen
set_option linter.unusedVariables false
set_option linter.unusedSimpArgs false
set_option maxHeartbeats 4000000
namespace Go.Proofs.YtkdodbfnocdkdaaGreatDoor
def sp:List UInt8→List (List UInt8)
 |[]=>[[]]
 |b::l=>if b=32 then []::sp l else match sp l with
  |x::r=>(b::x)::r
  |[]=>[[b]]
def Amr:List (List UInt8)→List UInt8
 |[]=>[]
 |[x]=>x
 |x::y::r=>x++32::Amr (y::r)
theorem aG:∀l:List UInt8,(∀b∈l,b≠32)→sp l=[l]
 |[],_=>rfl
 |b::l,h=>by
  unfold sp
  rw [if_neg (h b (by simp)),aG l (fun c hc=>h c (by simp [hc]))]
theorem rC (l:List UInt8):sp (32::l)=[]::sp l:=by
 conv=>lhs;unfold sp
 rw [if_pos rfl]
theorem qR {b:UInt8} {l x:List UInt8} {r:List (List UInt8)} (hb:b≠32) (h:sp l=x::r):sp (b::l)=(b::x)::r:=by
 conv=>lhs;unfold sp
 rw [if_neg hb,h]
theorem Yy:∀(a l:List UInt8),(∀b∈a,b≠32)→sp (a++32::l)=a::sp l
 |[],l,_=>rC l
 |b::a,l,h=>qR (h b (by simp)) (Yy a l (fun c hc=>h c (by simp [hc])))
theorem Vh (l:List UInt8):(Lib.indexByte l 32= -1∧(∀b∈l,b≠32)∧l.count 32=0)∨∃i:Nat,Lib.indexByte l 32=(i:Int)∧i<l.length∧(∀b∈l.take i,b≠32)∧l=l.take i++32::l.drop (i+1)∧l.count 32=1+(l.drop (i+1)).count 32:=by
 induction l with
 |nil=>exact .inl ⟨rfl,by simp,rfl⟩
 |cons b l ih=>
  unfold Lib.indexByte
  by_cases hb:b=32
  ·subst hb
   refine .inr ⟨0,by simp,by simp,by simp,by simp,by simp;omega⟩
  ·have e:(b==32)=false:=beq_eq_false_iff_ne.2 hb
   rw [e]
   simp only [Bool.false_eq_true,if_false]
   rcases ih with ⟨h1,h2,h3⟩|⟨i,h1,h2,h3,h4,h5⟩
   ·left
    refine ⟨by rw [h1];rfl,?_,by rw [List.count_cons_of_ne hb];exact h3⟩
    intro c hc
    rcases List.mem_cons.1 hc with rfl|hc
    ·exact hb
    ·exact h2 c hc
   ·right
    refine ⟨i+1,?_,by simp;omega,?_,?_,?_⟩
    ·rw [h1]
     have:((i:Int)== -1)=false:=beq_eq_false_iff_ne.2 (by omega)
     rw [this];simp
    ·intro c hc
     rw [List.take_succ_cons] at hc
     rcases List.mem_cons.1 hc with rfl|hc
     ·exact hb
     ·exact h3 c hc
    ·rw [List.take_succ_cons,List.drop_succ_cons,List.cons_append,← h4]
    ·rw [List.count_cons_of_ne hb,List.drop_succ_cons];exact h5
theorem bI:∀(k:Nat) (l:List UInt8),l.count 32=k→Lib.splitK [32] 0 k l=sp l
 |0,l,h=>by
  rcases Vh l with ⟨-,h2,-⟩|⟨i,-,-,-,-,h5⟩
  ·rw [aG l h2];rfl
  ·omega
 |k+1,l,h=>by
  rcases Vh l with ⟨-,-,h3⟩|⟨i,h1,h2,h3,h4,h5⟩
  ·omega
  ·unfold Lib.splitK
   rw [Pu,h1]
   have:((i:Int)== -1)=false:=beq_eq_false_iff_ne.2 (by omega)
   rw [this]
   simp only [Bool.false_eq_true,if_false,Int.toNat_natCast,Nat.add_zero,List.length_singleton]
   rw [bI k (l.drop (i+1)) (by omega)]
   conv=>rhs;rw [h4]
   rw [Yy _ _ h3]
theorem cU (s:ByteArray):(Lib.splitB ⟨#[32]⟩ 0 (Lib.countB s ⟨#[32]⟩) s).map (·.data.toList)=sp s.data.toList:=by
 rw [Lib.splitB_data]
 show Lib.splitK [32] 0 (Lib.count s.data.toList [32]) s.data.toList=_
 rw [Lib.count_one]
 exact bI _ _ rfl
theorem Xv:∀(u:Nat) (b:UInt8),b∈Lib.decDigits u→48≤b.toNat∧b.toNat≤57:=by
 intro u
 induction u using Nat.strongRecOn with
 |_ u ih=>
  intro b hb
  rw [Lib.decDigits] at hb
  split at hb
  ·simp only [List.mem_singleton] at hb
   subst hb
   rw [UInt8.toNat_ofNat'];omega
  ·rw [List.mem_append] at hb
   rcases hb with hb|hb
   ·exact ih (u / 10) (by omega) b hb
   ·simp only [List.mem_singleton] at hb
    subst hb
    rw [UInt8.toNat_ofNat'];omega
theorem Ux:∀(l:List UInt8) (acc v:Nat) (c:UInt8),Lib.parseUint10 acc l=.ok v→v<1000000000000000000→48≤c.toNat→c.toNat≤57→Lib.parseUint10 acc (l++[c])=.ok (v*10+(c.toNat-48))
 |[],acc,v,c,h,hv,h1,h2=>by
  simp only [Lib.parseUint10,Lib.NumEnd.ok.injEq] at h
  subst h
  simp only [List.nil_append,Lib.parseUint10]
  rw [if_pos ⟨h1,h2⟩,if_neg (by omega),if_neg (by omega)]
 |d::l,acc,v,c,h,hv,h1,h2=>by
  simp only [Lib.parseUint10,List.cons_append] at h ⊢
  split at h
  ·rename_i hd
   rw [if_pos hd]
   split at h
   ·cases h
   ·rename_i h3
    rw [if_neg h3]
    split at h
    ·cases h
    ·rename_i h4
     rw [if_neg h4]
     exact Ux l _ v c h hv h1 h2
  ·cases h
theorem pA:∀(u:Nat),u<1000000000000000000→Lib.parseUint10 0 (Lib.decDigits u)=.ok u:=by
 intro u
 induction u using Nat.strongRecOn with
 |_ u ih=>
  intro hu
  rw [Lib.decDigits]
  split
  ·rename_i h
   simp only [Lib.parseUint10]
   have e:(UInt8.ofNat (48+u)).toNat=48+u:=by rw [UInt8.toNat_ofNat'];omega
   rw [e,if_pos (by omega),if_neg (by omega),if_neg (by omega)]
   simp
  ·have h1:=ih (u / 10) (by omega) (by omega)
   have e:(UInt8.ofNat (48+u % 10)).toNat=48+u % 10:=by rw [UInt8.toNat_ofNat'];omega
   rw [Ux _ 0 (u / 10) _ h1 (by omega) (by omega) (by omega),e]
   congr 1
   omega
theorem Ah5 (u:Nat):Lib.decDigits u≠[]:=by
 rw [Lib.decDigits]
 split<;>simp
theorem W6 (z:Int) (h0:0≤z) (h1:z≤1000000):Lib.atoiAll (Lib.itoa z)=.ok z:=by
 obtain ⟨u,rfl⟩:∃u:Nat,z=(u:Int):=⟨z.toNat,by omega⟩
 have hi:Lib.itoa (u:Int)=Lib.decDigits u:=by unfold Lib.itoa;rw [if_neg (by omega)];simp
 rw [hi]
 have hp:=pA u (by omega)
 have hm:=Xv u
 have hne:=Ah5 u
 unfold Lib.atoiAll
 cases hd:Lib.decDigits u with
 |nil=>exact absurd hd hne
 |cons c r=>
  have hc:=hm c (by rw [hd];simp)
  have e1:¬(c.toNat=43∨c.toNat=45):=by omega
  simp only [if_neg e1]
  rw [← hd]
  have e2:Lib.parseMag (Lib.decDigits u)=.ok u:=by unfold Lib.parseMag;rw [if_neg hne];exact hp
  rw [e2]
  have e3:¬c.toNat=45:=by omega
  simp only [e3,not_false_eq_true,true_and,false_and,if_false]
  rw [if_neg (by omega)]
theorem S7 (z:Int) (h0:0≤z) (b:UInt8) (hb:b∈Lib.itoa z):48≤b.toNat∧b.toNat≤57:=by
 unfold Lib.itoa at hb
 rw [if_neg (by omega)] at hb
 exact Xv _ b hb
theorem hT {l:List UInt8} {v:Int} (h:Lib.atoiAll l=.ok v): -9223372036854775808≤v∧v≤9223372036854775807:=by
 cases l with
 |nil=>cases h
 |cons c r=>
  simp only [Lib.atoiAll] at h
  split at h
  ·cases h
  ·cases h
  ·rename_i u hu
   split at h
   ·cases h
   ·rename_i h1
    split at h
    ·cases h
    ·rename_i h2
     simp only [Lib.NumEnd.ok.injEq] at h
     subst h
     by_cases hn:c.toNat=45
     ·simp only [hn,true_and] at h2 ⊢;simp;omega
     ·simp only [hn,not_false_eq_true,true_and] at h1 ⊢;simp;omega
def D8:List ByteArray:=[(⟨#[72,69,73,71,72,84]⟩:ByteArray),(⟨#[72,69,65,68,73,78,71]⟩:ByteArray),(⟨#[83,80,69,69,68]⟩:ByteArray),(⟨#[68,73,82,69,67,84]⟩:ByteArray),(⟨#[72,79,76,68]⟩:ByteArray),(⟨#[67,79,78,84,65,67,84]⟩:ByteArray),(⟨#[76,65,78,68]⟩:ByteArray)]
def Gc (s:ByteArray):Int:=Ef (fun x=>decide (s=x)) D8
theorem kD (n:Nat) (hn:16<n) (s:ByteArray):Zs n s=some (Gc s):=by
 unfold Zs mU
 show (Bw (fun y:Int=>K0 n D8 s 0 (D8.length:Int) y) n 0).bind _=_
 have e:=Ii (fun x:ByteArray=>decide (s=x)) D8 (by decide) (S:=fun y:Int=>K0 n D8 s 0 (D8.length:Int) y) (fun i x hx=>by
  have h7:D8.length=7:=rfl
  have:=Dt hx
  unfold K0
  simp only [decide_eq_true (show (i:Int)<(D8.length:Int) by omega),Bl hx,wS (show i<9223372036854775807 by omega),cond_true,Option.bind_some,Ah7]
  by_cases h:s=x<;>simp [h]) (by
  unfold K0
  simp) n (by have h7:D8.length=7:=rfl;omega)
 rw [e];rfl
theorem Ab5 {s:ByteArray} (h:0≤Gc s):D8[(Gc s).toNat]?=some s∧Gc s≤6:=by
 have h2:=Og (fun x=>decide (s=x)) D8
 obtain ⟨x,h3,h4,-⟩:=Q1 (fun x=>decide (s=x)) D8 h
 have h5:=of_decide_eq_true h4
 subst h5
 exact ⟨h3,by have:(D8.length:Int)=7:=rfl;unfold Gc;omega⟩
theorem nI:∀(k:Nat) (x:ByteArray),D8[k]?=some x→Gc x=(k:Int)
 |0,x,h=>by simp only [D8,List.getElem?_cons_zero,Option.some.injEq] at h;subst h;decide
 |1,x,h=>by simp only [D8,List.getElem?_cons_succ,List.getElem?_cons_zero,Option.some.injEq] at h;subst h;decide
 |2,x,h=>by simp only [D8,List.getElem?_cons_succ,List.getElem?_cons_zero,Option.some.injEq] at h;subst h;decide
 |3,x,h=>by simp only [D8,List.getElem?_cons_succ,List.getElem?_cons_zero,Option.some.injEq] at h;subst h;decide
 |4,x,h=>by simp only [D8,List.getElem?_cons_succ,List.getElem?_cons_zero,Option.some.injEq] at h;subst h;decide
 |5,x,h=>by simp only [D8,List.getElem?_cons_succ,List.getElem?_cons_zero,Option.some.injEq] at h;subst h;decide
 |6,x,h=>by simp only [D8,List.getElem?_cons_succ,List.getElem?_cons_zero,Option.some.injEq] at h;subst h;decide
 |k+7,x,h=>by simp [D8] at h
theorem Vw:∀x∈D8,x.size≤7∧(∀b∈x.data.toList,b≠32)∧∃b,b∈x.data.toList∧65≤b.toNat:=by
 intro x hx
 simp only [D8,List.mem_cons,List.not_mem_nil,or_false] at hx
 rcases hx with rfl|rfl|rfl|rfl|rfl|rfl|rfl
 ·exact ⟨by decide,by decide,72,by decide,by decide⟩
 ·exact ⟨by decide,by decide,72,by decide,by decide⟩
 ·exact ⟨by decide,by decide,83,by decide,by decide⟩
 ·exact ⟨by decide,by decide,68,by decide,by decide⟩
 ·exact ⟨by decide,by decide,72,by decide,by decide⟩
 ·exact ⟨by decide,by decide,67,by decide,by decide⟩
 ·exact ⟨by decide,by decide,76,by decide,by decide⟩
theorem o8 {s:ByteArray} (h:∀b∈s.data.toList,¬65≤b.toNat):Gc s<0:=by
 rcases Int.lt_or_le (Gc s) 0 with h0|h0
 ·exact h0
 ·obtain ⟨h1,-⟩:=Ab5 h0
  obtain ⟨-,-,b,hb,h65⟩:=Vw s (List.mem_of_getElem? h1)
  exact absurd h65 (h b hb)
theorem gX (n:Nat) (hn:16<n) (s:ByteArray) (h:g77 n s=some true):1≤s.size∧s.size≤8∧∀b∈s.data.toList,b≠32:=by
 unfold g77 at h
 by_cases h1:(s.size:Int)<1
 ·rw [decide_eq_true h1] at h;simp at h
 by_cases h2:(s.size:Int)>8
 ·rw [decide_eq_false h1,decide_eq_true h2] at h;simp at h
 have hl:s.data.toList.length=s.size:=Array.length_toList
 rw [decide_eq_false h1,decide_eq_false h2,Fk (by omega) (by omega)] at h
 simp only [cond_false,Option.bind_some] at h
 refine ⟨by omega,by omega,?_⟩
 obtain ⟨r,e1,e2⟩:=Oi (S:=fun y:Int=>Mt n false (s.data.toList) ((s.data.toList).length:Int) y) s.data.toList (fun _ b=>b≠32) (fun r=>r=false) true (fun i x hx=>by
  have hlt:=Dt hx
  unfold Mt
  simp only [decide_eq_true (show (i:Int)<(s.data.toList.length:Int) by omega),Bl hx,wS (show i<9223372036854775807 by omega),cond_true,Option.bind_some]
  by_cases h65:(x.toNat:Int)≥65
  ·have hne:x≠32:=by rintro rfl;exact absurd h65 (by decide)
   rw [decide_eq_true h65,cond_true]
   by_cases h90:(x.toNat:Int)≤90
   ·rw [decide_eq_true h90,cond_true];exact .inl ⟨rfl,hne⟩
   ·rw [decide_eq_false h90,cond_false]
    by_cases hi:(i:Int)>0
    ·rw [decide_eq_true hi,cond_true]
     by_cases h48:(x.toNat:Int)≥48
     ·rw [decide_eq_true h48,cond_true]
      by_cases h57:(x.toNat:Int)≤57
      ·rw [decide_eq_true h57];exact .inl ⟨rfl,hne⟩
      ·rw [decide_eq_false h57];exact .inr ⟨false,rfl,rfl⟩
     ·rw [decide_eq_false h48];exact .inr ⟨false,rfl,rfl⟩
    ·rw [decide_eq_false hi];exact .inr ⟨false,rfl,rfl⟩
  ·rw [decide_eq_false h65,cond_false]
   by_cases hi:(i:Int)>0
   ·rw [decide_eq_true hi,cond_true]
    by_cases h48:(x.toNat:Int)≥48
    ·have hne:x≠32:=by rintro rfl;exact absurd h48 (by decide)
     rw [decide_eq_true h48,cond_true]
     by_cases h57:(x.toNat:Int)≤57
     ·rw [decide_eq_true h57];exact .inl ⟨rfl,hne⟩
     ·rw [decide_eq_false h57];exact .inr ⟨false,rfl,rfl⟩
    ·rw [decide_eq_false h48];exact .inr ⟨false,rfl,rfl⟩
   ·rw [decide_eq_false hi];exact .inr ⟨false,rfl,rfl⟩) (by
  unfold Mt
  simp) n (by omega)
 rw [e1] at h
 rcases e2 with rfl|⟨rfl,e2⟩
 ·cases h
 ·intro b hb
  obtain ⟨i,hi⟩:=List.mem_iff_getElem?.1 hb
  exact e2 i b hi
def gQ (s:ByteArray):Prop:=1≤s.size∧s.size≤8∧(∀b∈s.data.toList,b≠32)∧Gc s<0
theorem Vd (n:Nat) (hn:16<n) (s:ByteArray):Su n s=some false∨(Su n s=some true∧gQ s):=by
 unfold Su
 obtain ⟨b,hb⟩:=Un n hn s
 rw [hb,kD n hn]
 cases b with
 |false=>exact .inl rfl
 |true=>
  obtain ⟨h1,h2,h3⟩:=gX n hn s hb
  simp only [Option.bind_some,cond_true]
  by_cases hk:Gc s<0
  ·rw [decide_eq_true hk];exact .inr ⟨rfl,h1,h2,h3,hk⟩
  ·rw [decide_eq_false hk];exact .inl rfl
structure Hq (c:Ae):Prop where
 call:gQ c.Call
 k0:0≤c.Kind
 k6:c.Kind≤6
 fix:2<c.Kind→c.Value=0∧gQ c.Fix
 num:c.Kind≤2→c.Fix=⟨#[]⟩∧0≤c.Value∧c.Value≤60000
theorem cL (n:Nat) (hn:16<n) (c:Ae):(∃z,z≠0∧Po n c=some z)∨(Po n c=some 0∧Hq c):=by
 unfold Po
 rcases Vd n hn c.Call with h|⟨h,hc⟩
 ·rw [h];exact .inl ⟨3,by decide,rfl⟩
 rw [h]
 simp only [Option.bind_some,Bool.not_true,cond_false]
 by_cases h1:c.Kind<0
 ·rw [decide_eq_true h1];exact .inl ⟨1,by decide,rfl⟩
 by_cases h2:c.Kind>6
 ·rw [decide_eq_false h1,decide_eq_true h2];exact .inl ⟨1,by decide,rfl⟩
 rw [decide_eq_false h1,decide_eq_false h2]
 simp only [cond_false]
 by_cases h3:c.Kind>2
 ·rw [decide_eq_true h3,cond_true]
  by_cases h4:c.Value=0
  ·have e:(c.Value !=0)=false:=by simp [h4]
   rw [e,cond_false]
   rcases Vd n hn c.Fix with h5|⟨h5,hf⟩
   ·rw [h5];exact .inl ⟨3,by decide,rfl⟩
   ·rw [h5];exact .inr ⟨rfl,hc,by omega,by omega,fun _=>⟨h4,hf⟩,fun h=>by omega⟩
  ·have e:(c.Value !=0)=true:=by simp [h4]
   rw [e,cond_true];exact .inl ⟨3,by decide,rfl⟩
 ·rw [decide_eq_false h3,cond_false,Ah7]
  by_cases h4:c.Fix=⟨#[]⟩
  ·rw [decide_eq_true h4]
   simp only [Bool.not_true,cond_false]
   by_cases h5:c.Value<0
   ·rw [decide_eq_true h5];exact .inl ⟨4,by decide,rfl⟩
   rw [decide_eq_false h5,cond_false]
   obtain ⟨x,hx,hx2⟩:∃x,Ch ([60000,4095,400]:List Int) c.Kind=some x∧x≤60000:=by
    rcases (by omega:c.Kind=0∨c.Kind=1∨c.Kind=2) with h|h|h<;>rw [h]<;>exact ⟨_,rfl,by decide⟩
   rw [hx]
   simp only [Option.bind_some]
   by_cases h6:c.Value>x
   ·rw [decide_eq_true h6];exact .inl ⟨4,by decide,rfl⟩
   ·rw [decide_eq_false h6];exact .inr ⟨rfl,hc,by omega,by omega,fun h=>by omega,fun _=>⟨h4,by omega,by omega⟩⟩
  ·rw [decide_eq_false h4];exact .inl ⟨3,by decide,rfl⟩
def Fx (c:Ae):ByteArray:=(D8[c.Kind.toNat]?).getD ⟨#[]⟩
def Fm (c:Ae):ByteArray:=if 2<c.Kind then c.Fix else ⟨(Lib.itoa c.Value).toArray⟩
theorem aB {c:Ae} (h:Hq c):Ch D8 c.Kind=some (Fx c)∧D8[c.Kind.toNat]?=some (Fx c):=by
 have h0:=h.k0;have h6:=h.k6
 obtain ⟨k,hk⟩:∃k:Nat,c.Kind=(k:Int):=⟨c.Kind.toNat,by omega⟩
 have hlt:k<D8.length:=by have:D8.length=7:=rfl;omega
 unfold Fx
 rw [hk,fO,Int.toNat_natCast,List.getElem?_eq_getElem hlt]
 exact ⟨rfl,rfl⟩
theorem Xh {c:Ae} (h:Hq c):Gc (Fx c)=c.Kind:=by
 have h0:=h.k0
 rw [nI _ _ (aB h).2];omega
theorem Lo {c:Ae} (h:Hq c):(Fx c).size≤7∧∀b∈(Fx c).data.toList,b≠32:=by
 obtain ⟨h1,h2,-⟩:=Vw _ (List.mem_of_getElem? (aB h).2)
 exact ⟨h1,h2⟩
theorem Ip {c:Ae} (h:Hq c):(Fm c).size≤21∧(∀b∈(Fm c).data.toList,b≠32)∧Gc (Fm c)<0:=by
 unfold Fm
 by_cases hk:2<c.Kind
 ·rw [if_pos hk]
  obtain ⟨-,h1,h2,h3,h4⟩:=h.fix hk
  exact ⟨by omega,h3,h4⟩
 ·rw [if_neg hk]
  obtain ⟨-,h1,h2⟩:=h.num (by omega)
  refine ⟨?_,fun b hb=> ?_,o8 fun b hb=> ?_⟩
  ·show (Lib.itoa c.Value).toArray.size≤21
   have:=Lib.itoa_length_le c.Value (by omega) (by omega)
   simpa using this
  ·have:=S7 c.Value h1 b (by simpa using hb)
   rintro rfl
   exact absurd this.1 (by decide)
  ·have:=S7 c.Value h1 b (by simpa using hb)
   omega
theorem Sj {a b:ByteArray} (h:a.size+b.size≤1000):Ws a b=some (a++b):=by unfold Ws;rw [if_pos (by omega)]
theorem G3 (a b:ByteArray):(a++b).size=a.size+b.size:=ByteArray.size_append
theorem sQ (a b:ByteArray):(a++b).data.toList=a.data.toList++b.data.toList:=by rw [ByteArray.data_append,Array.toList_append]
theorem Adu (n:Nat) {c:Ae} (h:Hq c):g47 n c=some (Fx c++⟨#[32]⟩++Fm c):=by
 unfold g47
 obtain ⟨hw,-⟩:=aB h
 obtain ⟨w7,-⟩:=Lo h
 obtain ⟨r8,-,-⟩:=Ip h
 have hw:Ch ([(⟨#[72,69,73,71,72,84]⟩:ByteArray),(⟨#[72,69,65,68,73,78,71]⟩:ByteArray),(⟨#[83,80,69,69,68]⟩:ByteArray),(⟨#[68,73,82,69,67,84]⟩:ByteArray),(⟨#[72,79,76,68]⟩:ByteArray),(⟨#[67,79,78,84,65,67,84]⟩:ByteArray),(⟨#[76,65,78,68]⟩:ByteArray)]:List ByteArray) c.Kind=some (Fx c):=hw
 have e32:(⟨#[32]⟩:ByteArray).size=1:=rfl
 unfold Fm at*
 by_cases hk:2<c.Kind
 ·rw [decide_eq_true (show c.Kind>2 from hk),cond_true,hw]
  rw [if_pos hk] at r8 ⊢
  simp only [Option.bind_some]
  rw [Sj (by omega)]
  simp only [Option.bind_some]
  rw [Sj (by rw [G3];omega)]
  rfl
 ·rw [decide_eq_false (show ¬c.Kind>2 from hk),cond_false,hw]
  rw [if_neg hk] at r8 ⊢
  obtain ⟨-,v0,v1⟩:=h.num (by omega)
  simp only [Option.bind_some]
  rw [Sj (by omega)]
  have hi:eK n c.Value=some ⟨(Lib.itoa c.Value).toArray⟩:=by unfold eK;rw [if_pos ⟨by omega,by omega⟩]
  simp only [Option.bind_some,hi]
  rw [Sj (by rw [G3];omega)]
  rfl
def Aqw (c:Ae):ByteArray:=c.Call++⟨#[32]⟩++(Fx c++⟨#[32]⟩++Fm c)
def L2 (c:Ae):ByteArray:=Fx c++⟨#[32]⟩++Fm c++⟨#[32]⟩++c.Call
theorem Aeh {c:Ae} (h:Hq c):sp (L2 c).data.toList=[(Fx c).data.toList,(Fm c).data.toList,c.Call.data.toList]∧(L2 c).size≤120:=by
 obtain ⟨w7,w32⟩:=Lo h
 obtain ⟨r8,r32,-⟩:=Ip h
 obtain ⟨c1,c8,c32,-⟩:=h.call
 have e32:(⟨#[32]⟩:ByteArray).size=1:=rfl
 unfold L2
 refine ⟨?_,by rw [G3,G3,G3,G3];omega⟩
 simp only [sQ]
 have e:(⟨#[32]⟩:ByteArray).data.toList=[32]:=rfl
 simp only [List.append_assoc]
 show sp ((Fx c).data.toList++32::((Fm c).data.toList++32::c.Call.data.toList))=_
 rw [Yy _ _ w32,Yy _ _ r32,aG _ c32]
def Ro (call word rest:ByteArray):Ae×Bool:=
 if Gc word<0 then (⟨call,Gc word,0,⟨#[]⟩⟩,false)
 else if 2<Gc word then (⟨call,Gc word,0,rest⟩,true)
 else match Lib.atoiAll rest.data.toList with
  |.ok v=>(⟨call,Gc word,v,⟨#[]⟩⟩,decide (Lib.itoa v=rest.data.toList))
  |.range=>(⟨call,Gc word,Lib.atoiSat rest.data.toList,⟨#[]⟩⟩,false)
  |_=>(⟨call,Gc word,0,⟨#[]⟩⟩,false)
theorem kJ (n:Nat) (hn:16<n) (call word rest:ByteArray) (hr:rest.size≤1000) (ha:Gc word<0∨2<Gc word∨∃v,Lib.atoiAll rest.data.toList=.ok v):g49 n call word rest=some (Ro call word rest):=by
 unfold g49 Ro
 rw [kD n hn]
 simp only [Option.bind_some]
 by_cases h1:Gc word<0
 ·rw [decide_eq_true h1,if_pos h1];rfl
 rw [decide_eq_false h1,if_neg h1,cond_false]
 by_cases h2:2<Gc word
 ·rw [decide_eq_true (show Gc word>2 from h2),if_pos h2];rfl
 rw [decide_eq_false (show ¬Gc word>2 from h2),if_neg h2,cond_false]
 unfold Adi
 rw [if_pos (by omega)]
 obtain ⟨v,ha⟩:∃v,Lib.atoiAll rest.data.toList=.ok v:=by
  rcases ha with h|h|h
  ·exact absurd h h1
  ·exact absurd h h2
  ·exact h
 simp only [ha]
 have hv:=hT ha
 simp only [Option.bind_some,cond_true]
 have hi:eK n v=some ⟨(Lib.itoa v).toArray⟩:=by unfold eK;rw [if_pos hv]
 rw [hi]
 simp only [Option.bind_some,Ah7]
 have e:decide ((⟨(Lib.itoa v).toArray⟩:ByteArray)=rest)=decide (Lib.itoa v=rest.data.toList):=by
  rw [Bool.eq_iff_iff,decide_eq_true_iff,decide_eq_true_iff]
  constructor
  ·intro h;rw [← h]
  ·intro h;rw [h]
 rw [e]
theorem Aiq {s:ByteArray} {x y z:List UInt8} (h:sp s.data.toList=[x,y,z]):Lib.splitB ⟨#[32]⟩ 0 (Lib.countB s ⟨#[32]⟩) s=[⟨x.toArray⟩,⟨y.toArray⟩,⟨z.toArray⟩]:=by
 have hs:=cU s
 rw [h] at hs
 match hq:Lib.splitB ⟨#[32]⟩ 0 (Lib.countB s ⟨#[32]⟩) s,hs with
 |[a,b,c],hs=>
  simp only [List.map_cons,List.map_nil,List.cons.injEq,and_true] at hs
  obtain ⟨rfl,rfl,rfl⟩:=hs
  rfl
 |[],hs=>simp at hs
 |[a],hs=>simp at hs
 |[a,b],hs=>simp at hs
 |a::b::c::d::r,hs=>simp at hs
theorem vU (a:ByteArray):(⟨a.data.toList.toArray⟩:ByteArray)=a:=by simp
theorem oU {c:Ae} (h:Hq c):Ro c.Call (Fx c) (Fm c)=(c,true):=by
 have hk:=Xh h
 have h0:=h.k0
 unfold Ro Fm
 rw [hk,if_neg (by omega)]
 by_cases h2:2<c.Kind
 ·obtain ⟨hv,-⟩:=h.fix h2
  rw [if_pos h2,if_pos h2,← hv]
 ·obtain ⟨hf,v0,v1⟩:=h.num (by omega)
  rw [if_neg h2,if_neg h2]
  have e:(⟨(Lib.itoa c.Value).toArray⟩:ByteArray).data.toList=Lib.itoa c.Value:=by simp
  rw [e,W6 c.Value v0 (by omega)]
  simp only [decide_true]
  rw [← hf]
theorem sW {c:Ae} (h:Hq c) (a b:ByteArray):(Ro a (Fm c) b).2=false:=by
 obtain ⟨-,-,hk⟩:=Ip h
 unfold Ro
 rw [if_pos hk]
theorem oV {c:Ae} (h:Hq c):Gc (Fx c)<0∨2<Gc (Fx c)∨∃v,Lib.atoiAll (Fm c).data.toList=.ok v:=by
 rw [Xh h]
 by_cases h2:2<c.Kind
 ·exact .inr (.inl h2)
 ·obtain ⟨hf,v0,v1⟩:=h.num (by omega)
  refine .inr (.inr ⟨c.Value,?_⟩)
  unfold Fm
  rw [if_neg h2]
  have e:(⟨(Lib.itoa c.Value).toArray⟩:ByteArray).data.toList=Lib.itoa c.Value:=by simp
  rw [e,W6 c.Value v0 (by omega)]
theorem jH (n:Nat) (hn:16<n) {c:Ae} (h:Hq c) (hc:Po n c=some 0):g8 n (L2 c)=some (c,true,0):=by
 obtain ⟨h1,h2⟩:=Aeh h
 unfold g8
 obtain ⟨w7,-⟩:=Lo h
 obtain ⟨r8,-,-⟩:=Ip h
 obtain ⟨c1,c8,-⟩:=h.call
 have hsp:g48 n (L2 c) ⟨#[32]⟩=some (Lib.splitB ⟨#[32]⟩ 0 (Lib.countB (L2 c) ⟨#[32]⟩) (L2 c)):=by
  unfold g48
  rw [if_pos ⟨by omega,rfl⟩]
 rw [decide_eq_false (show ¬((L2 c).size:Int)>120 by omega),cond_false,hsp,Aiq h1]
 simp only [vU,Option.bind_some]
 have e:((([Fx c,Fm c,c.Call]:List ByteArray).length:Int) !=3)=false:=rfl
 have g0:Ch ([Fx c,Fm c,c.Call]:List ByteArray) 0=some (Fx c):=rfl
 have g1:Ch ([Fx c,Fm c,c.Call]:List ByteArray) 1=some (Fm c):=rfl
 have g2:Ch ([Fx c,Fm c,c.Call]:List ByteArray) 2=some c.Call:=rfl
 rw [e,g0,g1,g2]
 simp only [cond_false,Option.bind_some,kJ n hn _ _ _ (show c.Call.size≤1000 by omega) (.inl (Ip h).2.2),kJ n hn _ _ _ (show (Fm c).size≤1000 by omega) (oV h),sW h,oU h,Bool.not_true,Bool.not_false,cond_true,hc]
 rfl
end Go.Proofs.YtkdodbfnocdkdaaGreatDoor
set_option linter.unusedVariables false
set_option linter.unusedSimpArgs false
set_option maxHeartbeats 4000000
namespace Go.Proofs.YtkdodbfnocdkdaaGreatDoor
def pB (x:Ah):Ae:=⟨x.Av,x.Aq,x.Am,x.Ay⟩
def keyed (c:Ae) (x:Ah):Bool:=x.Av.toList==c.Call.toList && x.Aq==c.Kind
theorem idx_eq (n:Nat) (l:List Ah) (c:Ae) (hl:l.length≤1000) (hn:l.length<n):g52 n l c=some (Ef (keyed c) l):=by
 unfold g52 vE
 have e:=Ii (keyed c) l (by omega) (S:=fun y:Int=>Rz n l c.Call c.Kind c.Value c.Fix 0 (l.length:Int) y) (fun i x hx=>by
  have:=Dt hx
  unfold Rz qI
  rw [decide_eq_true (show (i:Int)<_ by omega),Bl hx,wS (by omega)]
  simp only [cond_true,Option.bind_some,keyed]
  by_cases h:(x.Av.toList==c.Call.toList)=true<;>by_cases h2:(x.Aq==c.Kind)=true<;>simp [h,h2]) (by
  unfold Rz
  simp) n hn
 rw [e];rfl
def L7 (l:List Ah) (t:Int):Bool:=decide (t<0)||(decide (t>200000)||match l.getLast? with|none=>false|some x=>decide (t<x.Time))
theorem cK (n:Nat) (l:List Ah) (t:Int) (hl:l.length≤1000):iS n l t=some (L7 l t):=by
 unfold iS L7
 cases decide (t<0) with
 |true=>rfl
 |false=>
  cases decide (t>200000) with
  |true=>rfl
  |false=>
   simp only [cond_false,Bool.false_or]
   rcases Nat.eq_zero_or_pos l.length with h|h
   ·have:l=[]:=List.eq_nil_of_length_eq_zero h
    subst this;rfl
   ·rw [decide_eq_true (show (l.length:Int)>0 by omega),cond_true,wrap64 (by omega) (by omega)]
    have e:l.getLast?=l[l.length-1]?:=List.getLast?_eq_getElem?
    have hx:l[l.length-1]?=some (l[l.length-1]'(by omega)):=List.getElem?_eq_getElem (by omega)
    rw [e,hx]
    have:Ch l ((l.length:Int)-1)=some (l[l.length-1]'(by omega)):=by
     rw [show (l.length:Int)-1=((l.length-1:Nat):Int) by omega]
     exact Bl hx
    rw [this];rfl
structure Lq (n:Nat) (l:List Ah):Prop where
 len:l.length≤12
 said:∀x∈l,Po n (pB x)=some 0
 time:∀x∈l,0≤x.Time∧x.Time≤200000
 sorted:l.Pairwise fun x y=>x.Time≤y.Time
 keys:l.Pairwise fun x y=>keyed (pB y) x=false
theorem Lq.sub {n:Nat} {l k:List Ah} (h:Lq n l) (hs:k.Sublist l):Lq n k:=
 ⟨Nat.le_trans hs.length_le h.len,fun x hx=>h.said x (hs.subset hx),fun x hx=>h.time x (hs.subset hx),h.sorted.sublist hs,h.keys.sublist hs⟩
theorem bJ (n:Nat) (hn:100<n) (l:List Ah) (hl:l.length≤12) (i:Nat) (x:Ah) (hx:l[i]?=some x):∃z,Po n (pB x)=some z∧Sx n l 0 (l.length:Int) (i:Int)=some (if z≠0 then .inr z else if L7 (l.take i) x.Time=true then .inr 12 else if Ef (keyed (pB x)) (l.take i)≥0 then .inr 7 else .inl ((i+1:Nat):Int)):=by
 have hi:=Dt hx
 obtain ⟨z,hz⟩:=P7 n (by omega) (pB x)
 refine ⟨z,hz,?_⟩
 have hz':Po n (⟨x.Av,x.Aq,x.Am,x.Ay⟩:Ae)=some z:=hz
 have hi':g52 n (l.take i) (⟨x.Av,x.Aq,x.Am,x.Ay⟩:Ae)=some (Ef (keyed (pB x)) (l.take i)):=idx_eq n _ (pB x) (by simp;omega) (by simp;omega)
 unfold Sx
 rw [decide_eq_true (show (i:Int)<_ by omega),Bl hx,wS (by omega),wC l i (by omega)]
 simp only [cond_true,Option.bind_some,hz',cK n (l.take i) x.Time (by simp;omega),hi']
 by_cases h1:z=0
 ·subst h1
  simp only [bne_self_eq_false,cond_false,ne_eq,not_true_eq_false,if_false]
  cases L7 (l.take i) x.Time with
  |true=>rfl
  |false=>
   simp only [cond_false,Bool.false_eq_true,if_false]
   by_cases h2:Ef (keyed (pB x)) (l.take i)≥0
   ·rw [decide_eq_true h2,if_pos h2];rfl
   ·rw [decide_eq_false h2,if_neg h2];rfl
 ·rw [show (z !=0)=true from bne_iff_ne.2 h1,if_pos h1];rfl
theorem nS (n:Nat) (hn:100<n) (l:List Ah) (h:Lq n l):nA n l=some 0:=by
 have hl:=h.len
 unfold nA
 rw [decide_eq_false (show ¬(l.length:Int)>12 by omega),cond_false]
 refine J7 (fun y=>∃i:Nat,i≤l.length∧y=(i:Int)) _ (fun y=>l.length-y.toNat) ?_ n _ ⟨0,Nat.zero_le _,rfl⟩ (by simp;omega)
 rintro _ ⟨i,hi,rfl⟩
 rcases Nat.lt_or_ge i l.length with hlt|hge
 ·have hx:l[i]?=some l[i]:=List.getElem?_eq_getElem hlt
  obtain ⟨z,hz,hS⟩:=bJ n hn l hl i _ hx
  have hz0:z=0:=by
   have:=h.said _ (List.getElem_mem hlt)
   rw [hz] at this
   exact Option.some.inj this
  have ht:=h.time _ (List.getElem_mem hlt)
  have hw:L7 (l.take i) l[i].Time=false:=by
   unfold L7
   rw [decide_eq_false (show ¬l[i].Time<0 by omega),decide_eq_false (show ¬l[i].Time>200000 by omega)]
   rcases Nat.eq_zero_or_pos i with h0|h0
   ·subst h0;rfl
   ·have hy:(l.take i).getLast?=some (l[i-1]'(by omega)):=by
     rw [List.getLast?_eq_getElem?,List.length_take,Nat.min_eq_left (by omega),List.getElem?_take,if_pos (by omega),List.getElem?_eq_getElem (by omega)]
    rw [hy]
    have:=List.pairwise_iff_getElem.1 h.sorted (i-1) i (by omega) hlt (by omega)
    simp;omega
  have hk:Ef (keyed (pB l[i])) (l.take i)<0:=(Lf _ _).2 fun y hy=>by
   rw [List.mem_take_iff_getElem] at hy
   obtain ⟨j,hj,rfl⟩:=hy
   exact List.pairwise_iff_getElem.1 h.keys j i (by omega) hlt (by omega)
  rw [hw,hz0] at hS
  refine .inl ⟨_,?_,⟨i+1,hlt,rfl⟩,by simp;omega⟩
  rw [hS]
  simp only [ne_eq,not_true_eq_false,if_false,Bool.false_eq_true]
  rw [if_neg (by omega)]
 ·have:i=l.length:=by omega
  subst this
  right
  unfold Sx
  simp
theorem vD (n:Nat) (hn:100<n) (l:List Ah) (c:Ae) (t:Int) (h1:Lq n l) (h2:Po n c=some 0) (h3:L7 l t=false):g50 n l c t=some 0:=by
 unfold g50
 rw [nS n hn l h1,h2]
 simp only [Option.bind_some,bne_self_eq_false,cond_false,cK n l t (by have:=h1.len;omega),h3]
theorem fN {l:List Ah} {t:Int} (h0:0≤t) (h1:t≤200000) (h:∀x∈l,x.Time≤t):L7 l t=false:=by
 unfold L7
 rw [decide_eq_false (show ¬t<0 by omega),decide_eq_false (show ¬t>200000 by omega)]
 cases hq:l.getLast? with
 |none=>rfl
 |some x=>
  have:=h x (List.mem_of_getLast? hq)
  simp;omega
def Lw (l:List Ah) (i:Nat):List Ah:=l.take i++l.drop (i+1)
theorem eX {l:List Ah} {i:Nat} (h:i<l.length):(Lw l i).length+1=l.length:=by unfold Lw;simp;omega
theorem Aa7 {l:List Ah} {i:Nat} (h:i<l.length) (hl:l.length≤1000):bX 56 l (i:Int) (IntKind.wrap .i64 ((i:Int)+1))=some (Lw l i):=by
 rw [wS (by omega)]
 unfold bX
 rw [if_pos ⟨by omega,by omega,by omega,by omega,by omega⟩]
 rfl
theorem iY (x:Ah):keyed (pB x) x=true:=by simp [keyed,pB]
def rest (l:List Ah) (c:Ae):List Ah:=if Ef (keyed c) l<0 then l else Lw l (Ef (keyed c) l).toNat
def opened (c:Ae) (t:Int):Ah:=⟨c.Call,c.Kind,c.Value,c.Fix,t⟩
theorem Akk (n:Nat) (hn:100<n) (l:List Ah) (c:Ae) (t:Int) (hp:g50 n l c t=some 0) (h:Lq n l):g9 n l c t=some (if (rest l c).length=12 then ([],9) else (rest l c++[opened c t],0)):=by
 have hl:=h.len
 unfold g9
 rw [hp]
 simp only [Option.bind_some,bne_self_eq_false,cond_false]
 rw [Fk (by omega) (by omega),idx_eq n l c (by omega) (by omega)]
 simp only [Option.bind_some]
 unfold rest
 by_cases hi:Ef (keyed c) l<0
 ·rw [decide_eq_false (show ¬Ef (keyed c) l≥0 by omega),cond_false,if_pos hi]
  by_cases h12:l.length=12
  ·rw [show ((l.length:Int)==12)=true from beq_iff_eq.2 (by omega),if_pos h12];rfl
  ·rw [show ((l.length:Int)==12)=false from beq_eq_false_iff_ne.2 (by omega),if_neg h12,Fk (by simp;omega) (by simp;omega)];rfl
 ·rw [decide_eq_true (show Ef (keyed c) l≥0 by omega),cond_true,if_neg hi]
  obtain ⟨x,h1,-,-⟩:=Q1 (keyed c) l (by omega)
  have hlt:=Dt h1
  have hid:Ef (keyed c) l=(((Ef (keyed c) l).toNat:Nat):Int):=by omega
  have hd:bX 56 l (Ef (keyed c) l) (IntKind.wrap .i64 (Ef (keyed c) l+1))=some (Lw l (Ef (keyed c) l).toNat):=by
   generalize (Ef (keyed c) l).toNat=i at hid hlt
   rw [hid];exact Aa7 hlt (by omega)
  have hlen:=eX hlt
  rw [hd]
  simp only [Option.bind_some]
  rw [show (((Lw l (Ef (keyed c) l).toNat).length:Int)==12)=false from beq_eq_false_iff_ne.2 (by omega),if_neg (by omega),Fk (by simp;omega) (by simp;omega)];rfl
theorem nX (n:Nat) (hn:100<n) (l:List Ah) (c:Ae) (t:Int) (ht:0≤t∧t≤200000) (hp:g50 n l c t=some 0) (h:Lq n l) (i:Nat) (x:Ah) (hi:Ef (keyed c) l=(i:Int)) (hx:l[i]?=some x) (hc:pB x=c):g10 n l c t=some (if t-x.Time>40 then ([],21) else (Lw l i,0)):=by
 have hl:=h.len
 have hxt:=h.time x (List.mem_of_getElem? hx)
 unfold g10
 rw [hp]
 simp only [Option.bind_some,bne_self_eq_false,cond_false]
 rw [idx_eq n l c (by omega) (by omega),hi]
 simp only [Option.bind_some,decide_eq_false (show ¬(i:Int)<0 by omega),cond_false,Bl hx]
 rw [wrap64 (by omega) (by omega)]
 by_cases h1:t-x.Time>40
 ·rw [decide_eq_true h1,if_pos h1];rfl
 ·have hc':(⟨x.Av,x.Aq,x.Am,x.Ay⟩:Ae)=c:=hc
  rw [decide_eq_false h1,if_neg h1,cond_false,decide_eq_true hc',Fk (by omega) (by omega),Aa7 (Dt hx) (by omega)]
  rfl
end Go.Proofs.YtkdodbfnocdkdaaGreatDoor
set_option linter.unusedVariables false
set_option linter.unusedSimpArgs false
set_option maxHeartbeats 4000000
namespace Go.Proofs.YtkdodbfnocdkdaaGreatDoor
def Q2 (n:Nat):Prop:=4000000000<n
theorem tL (n:Nat) (hn:Q2 n) (a:Int):∃r,dU n a=some r:=by
 unfold dU
 by_cases h0:a≤0
 ·rw [decide_eq_true h0,cond_true];exact ⟨_,rfl⟩
 rw [decide_eq_false h0,cond_false]
 obtain ⟨r,hr,-⟩:=Ei (S:=fun y:Int×Int=>Mp n a (0) y.1 y.2) (fun y=>0≤y.1∧y.1≤y.2∧y.2≤3037000499) (fun _=>True) (fun y=>(y.2-y.1).toNat) (by
  rintro ⟨u,v⟩ ⟨h1,h2,h3⟩
  simp only at h1 h2 h3 ⊢
  unfold Mp
  by_cases hlt:u<v
  ·rw [decide_eq_true hlt,cond_true]
   have e1:IntKind.wrap .i64 (v-u)=v-u:=wrap64 (by omega) (by omega)
   have e2:IntKind.wrap .i64 (v-u+1)=v-u+1:=wrap64 (by omega) (by omega)
   have e3:IntKind.wrap .i64 (Int.tdiv (v-u+1) 2)=(v-u+1) / 2:=by
    rw [Int.tdiv_eq_ediv_of_nonneg (by omega)]
    exact wrap64 (by omega) (by omega)
   have e4:IntKind.wrap .i64 (u+(v-u+1) / 2)=u+(v-u+1) / 2:=wrap64 (by omega) (by omega)
   rw [e1,e2,e3,e4]
   have e5:IntKind.wrap .i64 (u+(v-u+1) / 2-1)=u+(v-u+1) / 2-1:=wrap64 (by omega) (by omega)
   rw [e5]
   cases decide (IntKind.wrap .i64 ((u+(v-u+1) / 2)*(u+(v-u+1) / 2))≤a) with
   |true=>exact .inl ⟨_,rfl,⟨by show 0≤u+(v-u+1) / 2;omega,by show u+(v-u+1) / 2≤v;omega,h3⟩,by show (v-(u+(v-u+1) / 2)).toNat<(v-u).toNat;omega⟩
   |false=>exact .inl ⟨_,rfl,⟨h1,by show u≤u+(v-u+1) / 2-1;omega,by show u+(v-u+1) / 2-1≤3037000499;omega⟩,by show (u+(v-u+1) / 2-1-u).toNat<(v-u).toNat;omega⟩
  ·rw [decide_eq_false hlt,cond_false]
   exact .inr ⟨_,rfl,trivial⟩) n (0,3037000499) ⟨by decide,by decide,by decide⟩ (by unfold Q2 at hn;show ((3037000499:Int)-0).toNat<n;omega)
 exact ⟨r,hr⟩
theorem vA (n:Nat) (hn:Q2 n) (a b:TP):∃r,Mf n a b=some r:=by
 unfold Mf
 obtain ⟨d,hd⟩:∃d,Wa n a b=some d:=⟨_,rfl⟩
 rw [hd,Option.bind_some]
 obtain ⟨q,hq⟩:=tL n hn d
 rw [hq,Option.bind_some]
 cases decide (IntKind.wrap .i64 (q*q)<d)<;>exact ⟨_,rfl⟩
theorem dB (n:Nat) (hn:Q2 n) (a b:Ab) (s:Db):∃r,Wf n a b s=some r:=by
 unfold Wf
 obtain ⟨d,hd⟩:=vA n hn ⟨a.Ak,a.Aj⟩ ⟨b.Ak,b.Aj⟩
 rw [hd,Option.bind_some]
 cases decide (IntKind.wrap .i64 (IntKind.wrap .i64 (d.1-a.Aw)-b.Aw)≥s.Bf)<;>exact ⟨_,rfl⟩
theorem Ud (n:Nat) {a b:List Ab} (ha:Cg a) (hb:Cg b):∃f t:Int,Wi n a b=some (f,t)∧0≤f∧f≤200000∧0≤t∧t≤200000:=by
 have hp:=ha.pos
 have hq:=ha.len
 have hp':=hb.pos
 have hq':=hb.len
 have h0:a[0]?=some a[0]:=List.getElem?_eq_getElem hp
 have h1:a[a.length-1]?=some a[a.length-1]:=List.getElem?_eq_getElem (by omega)
 have k0:b[0]?=some b[0]:=List.getElem?_eq_getElem hp'
 have k1:b[b.length-1]?=some b[b.length-1]:=List.getElem?_eq_getElem (by omega)
 have hw:IntKind.wrap .i64 ((a.length:Int)-1)=((a.length-1:Nat):Int):=by rw [wrap64 (by omega) (by omega)];omega
 have hw':IntKind.wrap .i64 ((b.length:Int)-1)=((b.length-1:Nat):Int):=by rw [wrap64 (by omega) (by omega)];omega
 have g0:Ch a 0=some a[0]:=Bl (i:=0) h0
 have g0':Ch b 0=some b[0]:=Bl (i:=0) k0
 have b0:=ha.nodes _ (List.mem_of_getElem? h0)
 have b1:=ha.nodes _ (List.mem_of_getElem? h1)
 have b2:=hb.nodes _ (List.mem_of_getElem? k0)
 have b3:=hb.nodes _ (List.mem_of_getElem? k1)
 unfold Wi
 rw [g0,g0',hw,hw',Bl h1,Bl k1]
 refine ⟨_,_,rfl,?_,?_,?_,?_⟩
 ·split<;>first|exact b2.1|exact b0.1
 ·split<;>first|exact b2.2.1|exact b0.2.1
 ·split<;>first|exact b3.1|exact b1.1
 ·split<;>first|exact b3.2.1|exact b1.2.1
theorem mZ (n:Nat) (hn:Q2 n) {a b:List Ab} (ha:Cg a) (hb:Cg b) (ca:Kg n a=some 0) (cb:Kg n b=some 0) (s:Db):∃L,jT n a b s=some L:=by
 obtain ⟨f,t,hc,f1,f2,t1,t2⟩:=Ud n ha hb
 have hn64:64<n:=by unfold Q2 at hn;omega
 unfold jT
 rw [hc,Option.bind_some]
 obtain ⟨r,hr,-⟩:=Ei (S:=fun y:Int×List Bq=>U1 n a b (f,t).2 s.Bf s.A9 y.1 y.2) (fun y=>f≤y.1∧y.1≤200001∧y.2.length≤(y.1-f).toNat) (fun _=>True) (fun y=>(t+1-y.1).toNat) (by
  rintro ⟨u,L⟩ ⟨h1,h2,h3⟩
  simp only at h1 h2 h3 ⊢
  unfold U1
  by_cases hle:u≤t
  ·rw [decide_eq_true hle,cond_true,(Zj n hn64 a ha ca u).1,(Zj n hn64 b hb cb u).1]
   simp only [Option.bind_some]
   obtain ⟨q,hq⟩:=dB n hn (atR n a u).1 (atR n b u).1 ⟨s.Bf,s.A9⟩
   rw [hq,Option.bind_some]
   have e1:IntKind.wrap .i64 (u+1)=u+1:=wrap64 (by omega) (by omega)
   have dec:(t+1-(u+1)).toNat<(t+1-u).toNat:=by omega
   have room:D0 (L.length+1) 16=some ():=Fk (by omega) (by omega)
   rw [e1]
   cases q with
   |true=>exact .inl ⟨_,rfl,⟨by show f≤u+1;omega,by show u+1≤200001;omega,by show L.length≤(u+1-f).toNat;omega⟩,dec⟩
   |false=>
    rw [cond_false]
    by_cases hl:(L.length:Int)>0
    ·rw [decide_eq_true hl,cond_true]
     have hw:IntKind.wrap .i64 ((L.length:Int)-1)=((L.length-1:Nat):Int):=by rw [wrap64 (by omega) (by omega)];omega
     have hx:L[L.length-1]?=some (L[L.length-1]'(by omega)):=List.getElem?_eq_getElem (by omega)
     rw [hw,Bl hx]
     simp only [Option.bind_some]
     cases (L[L.length-1]'(by omega)).To==u with
     |true=>exact .inl ⟨_,rfl,⟨by show f≤u+1;omega,by show u+1≤200001;omega,by simp only [List.length_set];omega⟩,dec⟩
     |false=>
      rw [cond_false,show L.length+([(⟨u,u+1⟩:Bq)]:List Bq).length=L.length+1 from rfl,room,Option.bind_some]
      exact .inl ⟨_,rfl,⟨by show f≤u+1;omega,by show u+1≤200001;omega,by simp only [List.length_append,List.length_cons,List.length_nil];omega⟩,dec⟩
    ·rw [decide_eq_false hl,cond_false,show L.length+([(⟨u,u+1⟩:Bq)]:List Bq).length=L.length+1 from rfl,room,Option.bind_some]
     exact .inl ⟨_,rfl,⟨by show f≤u+1;omega,by show u+1≤200001;omega,by simp only [List.length_append,List.length_cons,List.length_nil];omega⟩,dec⟩
  ·rw [decide_eq_false hle,cond_false]
   exact .inr ⟨_,rfl,trivial⟩) n (f,[]) ⟨Int.le_refl _,by show f≤200001;omega,by simp⟩ (by unfold Q2 at hn;show (t+1-f).toNat<n;omega)
 exact ⟨r,hr⟩
theorem Za (n:Nat) (s:Db) (hs:gB n s=some 0) (L:List (List Ab)) (hL:L.length≤1000) (hn:Q2 n) (h:∀l∈L,Kg n l=some 0):g65 n s L=some 0:=by
 unfold g65
 rw [hs,Option.bind_some,show ((0:Int) !=0)=false from rfl,cond_false]
 refine J7 (fun y=>∃i:Nat,i≤L.length∧y=(i:Int)) 0 (fun y=>L.length-y.toNat) ?_ n _ ⟨0,Nat.zero_le _,rfl⟩ (by unfold Q2 at hn;show L.length-(0:Int).toNat<n;omega)
 rintro _ ⟨i,hi,rfl⟩
 unfold mM
 rcases Nat.lt_or_ge i L.length with hlt|hge
 ·left
  have hx:L[i]?=some L[i]:=List.getElem?_eq_getElem hlt
  rw [decide_eq_true (show (i:Int)<(L.length:Int) by omega),cond_true,Bl hx,Option.bind_some,h _ (List.mem_of_getElem? hx),Option.bind_some,show ((0:Int) !=0)=false from rfl,cond_false,wS (by omega)]
  exact ⟨_,rfl,⟨i+1,hlt,rfl⟩,by omega⟩
 ·right
  rw [decide_eq_false (by omega)];rfl
theorem jV (n:Nat) (hn:200200<n) (l:List Ab) (c:Ae) (t:Int) (k:Dg) (fix:TP):∃r,g11 n l c t k fix=some r∧(r.2=0→Cg r.1∧Kg n r.1=some 0):=by
 rcases bH n (by omega) l c t k fix with ⟨y,hy,e1⟩|⟨ec,ok,hk,hfix,now,e4,e1⟩
 ·exact ⟨_,e1,fun h=>absurd h hy⟩
 obtain ⟨n1,n2,n3,n4,n5⟩:=Af6 n (by omega) l ok ec t now e4
 have hlen:=ok.len
 have hpos:=ok.pos
 have hx0:l[0]?=some l[0]:=List.getElem?_eq_getElem (by omega)
 have hxl:l[l.length-1]?=some l[l.length-1]:=List.getElem?_eq_getElem (by omega)
 have hf:=fK n (by omega) l ok ec t now _ _ hx0 hxl e4
 have hlast:=n5 _ hxl
 obtain ⟨now',er,hnow⟩:=As6 n (by omega) l ok t _ _ hx0 hxl hf hlast
 rw [e4] at er
 cases er
 obtain ⟨⟨W,same,e⟩,hr,hfine⟩:=fV n (by omega) l ok ec c t now k fix hfix hk e4 hnow.nb n1
 rw [e1]
 rcases hfine with h|⟨h0,h⟩
 ·have h:e≠0:=h
  refine ⟨([],e),?_,fun h'=>absurd h' h⟩
  unfold Nd
  rw [hr,Option.bind_some]
  show (bif (e !=0) then _ else _)=_
  rw [bne_iff_ne.2 h,cond_true]
 have h0:e=0:=h0
 subst h0
 rcases h with h|⟨h1,h2,h3,h4⟩
 ·have h:same=true:=h
  subst h
  refine ⟨(l,0),?_,fun _=>⟨ok,ec⟩⟩
  unfold Nd
  rw [hr,Option.bind_some,Fk (by omega) (by omega)]
  rfl
 have h1:same=false:=h1
 subst h1
 have hb:=Ack l t
 have h2:W.length≤66:=h2
 have hcat:Vb 48 ([Ri l t,([(⟨now.Ac,now.Ak,now.Aj,now.Af,now.Aw,now.Bi⟩:Ab)]:List Ab),W]:List (List Ab))=some (Ri l t++now::W):=by
  rw [Ahk (by simp) (by simp;omega)]
  simp
 have hend:Nd n l c t now k fix=bif (decide (((Ri l t++now::W).length:Int)>(64))) then some ([],(2)) else some (Ri l t++now::W,(0)):=by
  unfold Nd
  rw [hr,Option.bind_some]
  show (bif ((0:Int) !=0) then _ else bif false then _ else (Vb 48 ([Ri l t,([(⟨now.Ac,now.Ak,now.Aj,now.Af,now.Aw,now.Bi⟩:Ab)]:List Ab),W]:List (List Ab))).bind _)=_
  rw [hcat]
  rfl
 rw [hend]
 by_cases h64:((Ri l t++now::W).length:Int)>64
 ·rw [decide_eq_true h64,cond_true]
  exact ⟨_,rfl,fun h=>by cases h⟩
 rw [decide_eq_false h64,cond_false]
 have mok:Cg (Ri l t++now::W):=h4 (by show (Ri l t++now::W).length≤64;omega)
 exact ⟨_,rfl,fun _=>⟨mok,fC n (by omega) _ mok⟩⟩
theorem Xr (n:Nat) (hn:Q2 n) {a b:List Ab} (ha:Cg a) (hb:Cg b) (ca:Kg n a=some 0) (cb:Kg n b=some 0) (s:Db) (hs:gB n s=some 0):
  ∃r,w9 n a b s=some r∧(r.2=0∨r.2=8):=by
 obtain ⟨L,hL⟩:=mZ n hn ha hb ca cb s
 have hp:g85 n a b s=some (L,0):=by
  unfold g85
  rw [Za n s hs [a,b] (by simp) hn (by simp [ca,cb]),Option.bind_some,show ((0:Int) !=0)=false from rfl,cond_false,hL]
  rfl
 unfold w9
 rw [hp,Option.bind_some,show ((0:Int) !=0)=false from rfl,cond_false]
 cases L with
 |nil=>exact ⟨(0,8),rfl,.inr rfl⟩
 |cons x L=>
  rw [show (((x::L).length:Int)==0)=false by simp;omega,cond_false]
  have:Ch (x::L) 0=some x:=Bl (i:=0) rfl
  rw [show ((x::L),(0:Int)).1=x::L from rfl,this]
  exact ⟨(x.Cs,0),rfl,.inl rfl⟩
theorem gG {α ρ σ:Type} {S:σ→Option (σ⊕ρ)} (f:Nat→σ) (m:σ→Nat) (l:List α) (hm:∀i,m (f i)=l.length-i) (P:Nat→α→Prop) (bad:Nat→α→ρ→Prop) (good:ρ) (h:∀(i:Nat) (x:α),l[i]?=some x→(S (f i)=some (.inl (f (i+1)))∧P i x)∨∃r,S (f i)=some (.inr r)∧bad i x r) (h0:S (f l.length)=some (.inr good)) (n:Nat) (hn:l.length<n):
  ∃r,Bw S n (f 0)=some r∧((∃i x,l[i]?=some x∧bad i x r∧∀(j:Nat) (y:α),j<i→l[j]?=some y→P j y)∨r=good∧∀(i:Nat) (x:α),l[i]?=some x→P i x):=by
 refine Ei (fun x=>∃i:Nat,i≤l.length∧x=f i∧∀(j:Nat) (x:α),j<i→l[j]?=some x→P j x) _ m ?_ n _ ⟨0,Nat.zero_le _,rfl,fun j x h=>absurd h (Nat.not_lt_zero _)⟩ (by rw [hm];omega)
 rintro _ ⟨i,hi,rfl,hP⟩
 rcases Nat.lt_or_ge i l.length with hlt|hge
 ·rcases h i _ (List.getElem?_eq_getElem hlt) with ⟨k,k1⟩|⟨r,k,k1⟩
  ·refine .inl ⟨_,k,⟨i+1,hlt,rfl,fun j x hj hx=> ?_⟩,by rw [hm,hm];omega⟩
   rcases Nat.lt_or_ge j i with h'|h'
   ·exact hP j x h' hx
   ·have:j=i:=by omega
    subst this
    rw [List.getElem?_eq_getElem hlt] at hx
    cases hx
    exact k1
  ·exact .inr ⟨r,k,.inl ⟨i,_,List.getElem?_eq_getElem hlt,k1,hP⟩⟩
 ·have:i=l.length:=by omega
  subst this
  exact .inr ⟨good,h0,.inr ⟨rfl,fun j x hx=>hP j x (Dt hx) hx⟩⟩
def Clear (n:Nat) (l:List (List Ab)) (i:Int) (m:List Ab) (s:Db):Prop:=∀(k:Nat) (x:List Ab),l[k]?=some x→(k:Int)≠i→∃r,w9 n m x s=some (r,8)
section
variable {n:Nat} (hn:Q2 n) {l:List (List Ab)} (hl:l.length≤24) (hok:∀x∈l,Cg x∧Kg n x=some 0) (i:Int) {m:List Ab} (hm:Cg m) (cm:Kg n m=some 0) {s:Db} (hs:gB n s=some 0)
include hn hl hok hm cm hs
theorem eD:∃b,g45 n l i m s=some b∧(b=true↔Clear n l i m s):=by
 unfold g45
 obtain ⟨r,hr,hq⟩:=Oi (S:=fun y:Int=>Qk n i m false l (l.length:Int) s.Bf s.A9 y) l (fun k x=>(k:Int)≠i→∃r,w9 n m x s=some (r,8)) (fun r=>r=false∧¬Clear n l i m s) true (fun k x hx=>by
  have:=Dt hx
  obtain ⟨h1,h2⟩:=hok x (List.mem_of_getElem? hx)
  obtain ⟨⟨u,e⟩,hf,h⟩:=Xr n hn hm h1 cm h2 s hs
  show (Qk n i m false l (l.length:Int) s.Bf s.A9 (k:Int)=_∧_)∨∃r,Qk n i m false l (l.length:Int) s.Bf s.A9 (k:Int)=some (.inr r)∧_
  unfold Qk
  rw [decide_eq_true (show (k:Int)<_ by omega),cond_true,Bl hx,Option.bind_some,wS (by omega)]
  by_cases hk:(k:Int)=i
  ·rw [show ((k:Int) !=i)=false by rw [hk];exact bne_self_eq_false _,cond_false]
   exact .inl ⟨rfl,fun h=>absurd hk h⟩
  rw [bne_iff_ne.2 hk,cond_true]
  rw [show (⟨s.Bf,s.A9⟩:Db)=s from rfl,hf,Option.bind_some]
  rcases h with h|h
  ·have h:e=0:=h
   subst h
   refine .inr ⟨false,rfl,rfl,fun hc=> ?_⟩
   obtain ⟨r,hr⟩:=hc k x hx hk
   rw [hf] at hr
   cases hr
  ·have h:e=8:=h
   subst h
   exact .inl ⟨rfl,fun _=>⟨u,rfl⟩⟩) (by
  show Qk n i m false l (l.length:Int) s.Bf s.A9 (l.length:Int)=_
  unfold Qk
  rw [decide_eq_false (Int.lt_irrefl _)];rfl) n (by unfold Q2 at hn;omega)
 refine ⟨r,hr,?_⟩
 rcases hq with ⟨rfl,h⟩|⟨rfl,h⟩
 ·exact ⟨fun h'=>(by cases h'),fun h'=>absurd h' h⟩
 ·exact ⟨fun _=>h,fun _=>rfl⟩
end
end Go.Proofs.YtkdodbfnocdkdaaGreatDoor
set_option linter.unusedVariables false
set_option linter.unusedSimpArgs false
set_option maxHeartbeats 4000000
namespace Go.Proofs.YtkdodbfnocdkdaaGreatDoor
theorem lO (x y:Int):IntKind.wrap .i64 (x-y)*IntKind.wrap .i64 (x-y)=IntKind.wrap .i64 (y-x)*IntKind.wrap .i64 (y-x):=by
 have h:IntKind.wrap .i64 (y-x)= - IntKind.wrap .i64 (x-y)∨IntKind.wrap .i64 (y-x)=IntKind.wrap .i64 (x-y):=by rw [IntKind.wrap_i64,IntKind.wrap_i64];omega
 rcases h with h|h
 ·rw [h,Int.neg_mul_neg]
 ·rw [h]
theorem Ai3 (n:Nat) (a b:TP):Wa n a b=Wa n b a:=by
 unfold Wa bP oP
 show some (IntKind.wrap .i64 (IntKind.wrap .i64 (IntKind.wrap .i64 (a.X-b.X)*IntKind.wrap .i64 (a.X-b.X))+IntKind.wrap .i64 (IntKind.wrap .i64 (a.Y-b.Y)*IntKind.wrap .i64 (a.Y-b.Y))))=some (IntKind.wrap .i64 (IntKind.wrap .i64 (IntKind.wrap .i64 (b.X-a.X)*IntKind.wrap .i64 (b.X-a.X))+IntKind.wrap .i64 (IntKind.wrap .i64 (b.Y-a.Y)*IntKind.wrap .i64 (b.Y-a.Y))))
 rw [lO a.X b.X,lO a.Y b.Y]
theorem qL (n:Nat) (a b:TP):Mf n a b=Mf n b a:=by
 unfold Mf
 rw [Ai3 n a b]
theorem fW (d p q:Int):IntKind.wrap .i64 (IntKind.wrap .i64 (d-p)-q)=IntKind.wrap .i64 (IntKind.wrap .i64 (d-q)-p):=by
 simp only [IntKind.wrap_i64];omega
theorem lA (x y:Int):(if x>y then x else y)=if y>x then y else x:=by split<;>split<;>omega
theorem Aa6 (n:Nat) (a b:Ab) (s:Db):Wf n a b s=Wf n b a s:=by
 unfold Wf
 rw [qL n ⟨a.Ak,a.Aj⟩ ⟨b.Ak,b.Aj⟩]
 congr 1
 funext d
 rw [fW d.1 a.Aw b.Aw,lA,fW _ a.Bi b.Bi]
theorem pP (n:Nat) {a b:List Ab} (ha:Cg a) (hb:Cg b):∃f t:Int,Wi n a b=some (f,t)∧Wi n b a=some (f,t)∧0≤f∧f≤200000∧0≤t∧t≤200000:=by
 obtain ⟨f,t,h,h1⟩:=Ud n ha hb
 refine ⟨f,t,h,?_,h1⟩
 rw [← h]
 have hp:=ha.pos
 have hq:=ha.len
 have hp':=hb.pos
 have hq':=hb.len
 have h0:a[0]?=some a[0]:=List.getElem?_eq_getElem hp
 have h1:a[a.length-1]?=some a[a.length-1]:=List.getElem?_eq_getElem (by omega)
 have k0:b[0]?=some b[0]:=List.getElem?_eq_getElem hp'
 have k1:b[b.length-1]?=some b[b.length-1]:=List.getElem?_eq_getElem (by omega)
 have hw:IntKind.wrap .i64 ((a.length:Int)-1)=((a.length-1:Nat):Int):=by rw [wrap64 (by omega) (by omega)];omega
 have hw':IntKind.wrap .i64 ((b.length:Int)-1)=((b.length-1:Nat):Int):=by rw [wrap64 (by omega) (by omega)];omega
 have g0:Ch a 0=some a[0]:=Bl (i:=0) h0
 have g0':Ch b 0=some b[0]:=Bl (i:=0) k0
 unfold Wi
 rw [g0,g0',hw,hw',Bl h1,Bl k1]
 simp only [Option.bind_some]
 rw [lA b[0].Ac a[0].Ac]
 congr 2
 split<;>split<;>omega
def Vn (n:Nat) (a b:List Ab) (s:Db) (u:Int):Bool:=(Wf n (atR n a u).1 (atR n b u).1 s).getD true
theorem cO (n:Nat) (a b:List Ab) (s:Db) (u:Int):Vn n a b s u=Vn n b a s u:=by unfold Vn;rw [Aa6]
theorem aY {α:Type} {L:List α} {i:Nat} {x y:α} (f:α→Int) (hx:L[i]?=some x) (h:f y=f x):(L.set i y).map f=L.map f:=by
 apply List.ext_getElem?
 intro j
 rw [List.getElem?_map,List.getElem?_map]
 by_cases e:i=j
 ·subst e
  rw [List.getElem?_set_self (Dt hx),hx]
  exact congrArg some h
 ·rw [List.getElem?_set_ne e]
theorem X7 (n:Nat) (hn:Q2 n) {a b:List Ab} (ha:Cg a) (hb:Cg b) (ca:Kg n a=some 0) (cb:Kg n b=some 0) (s:Db) {f t:Int} (hc:Wi n a b=some (f,t)) (f1:0≤f) (f2:f≤200000) (t1:0≤t) (t2:t≤200000):
  ∃L,jT n a b s=some L∧L.length≤200001∧(L=[]↔∀u,f≤u→u≤t→Vn n a b s u=true)∧(L.map Bq.Cs).Pairwise (·<·)∧∀z∈L.map Bq.Cs,0≤z∧z≤200000:=by
 have hn64:64<n:=by unfold Q2 at hn;omega
 unfold jT
 rw [hc,Option.bind_some]
 have fin:∀{u:Int} {L:List Bq},f≤u→¬u≤t→(∀w,f≤w→w<u→w≤t)→(L=[]↔∀w,f≤w→w<u→Vn n a b s w=true)→(L=[]↔∀w,f≤w→w≤t→Vn n a b s w=true):=fun {u L} h1 h2 h3 h4=>h4.trans ⟨fun h w w1 w2=>h w w1 (by omega),fun h w w1 w2=>h w w1 (h3 w w1 w2)⟩
 refine Ei (S:=fun y:Int×List Bq=>U1 n a b (f,t).2 s.Bf s.A9 y.1 y.2) (fun y=>f≤y.1∧(y.1≤t+1∨y.1=f)∧y.2.length≤(y.1-f).toNat∧(y.2=[]↔∀w,f≤w→w<y.1→Vn n a b s w=true)∧(y.2.map Bq.Cs).Pairwise (·<·)∧∀z∈y.2.map Bq.Cs,f≤z∧z<y.1) _ (fun y=>(t+1-y.1).toNat) ?_ n (f,[]) ⟨Int.le_refl _,.inr rfl,by simp,⟨fun _ w h1 h2=>by have h2:w<f:=h2;omega,fun _=>rfl⟩,by simp,by simp⟩ (by unfold Q2 at hn;show (t+1-f).toNat<n;omega)
 rintro ⟨u,L⟩ ⟨h1,h2,h3,h4,h5,h6⟩
 simp only at h1 h2 h3 h4 h5 h6 ⊢
 unfold U1
 by_cases hle:u≤t
 ·left
  rw [decide_eq_true hle,cond_true,(Zj n hn64 a ha ca u).1,(Zj n hn64 b hb cb u).1]
  simp only [Option.bind_some]
  obtain ⟨q,hq⟩:=dB n hn (atR n a u).1 (atR n b u).1 ⟨s.Bf,s.A9⟩
  have hqs:Vn n a b s u=q:=by unfold Vn;rw [show s=⟨s.Bf,s.A9⟩ from rfl,hq];rfl
  rw [hq,Option.bind_some]
  have e1:IntKind.wrap .i64 (u+1)=u+1:=wrap64 (by omega) (by omega)
  have dec:(t+1-(u+1)).toNat<(t+1-u).toNat:=by omega
  have room:D0 (L.length+1) 16=some ():=Fk (by omega) (by omega)
  rw [e1]
  cases q with
  |true=>
   refine ⟨_,rfl,⟨by show f≤u+1;omega,.inl (by show u+1≤t+1;omega),by show L.length≤(u+1-f).toNat;omega,?_,h5,fun z hz=>by have:=h6 z hz;exact ⟨this.1,by show z<u+1;omega⟩⟩,dec⟩
   show L=[]↔∀w,f≤w→w<u+1→_
   rw [h4]
   constructor
   ·intro h w w1 w2
    by_cases e:w=u
    ·rw [e];exact hqs
    ·exact h w w1 (by omega)
   ·intro h w w1 w2
    exact h w w1 (by omega)
  |false=>
   rw [cond_false]
   have hno:¬∀w,f≤w→w<u+1→Vn n a b s w=true:=fun h=>by
    have:=h u h1 (by omega)
    rw [hqs] at this;cases this
   have grow:∀x:Bq,x.Cs=u→∃y:Int×List Bq,(some (Sum.inl (u+1,L++[x])):Option ((Int×List Bq)⊕oB))=some (Sum.inl y)∧(f≤y.1∧(y.1≤t+1∨y.1=f)∧y.2.length≤(y.1-f).toNat∧(y.2=[]↔∀w,f≤w→w<y.1→Vn n a b s w=true)∧(y.2.map Bq.Cs).Pairwise (·<·)∧∀z∈y.2.map Bq.Cs,f≤z∧z<y.1)∧(t+1-y.1).toNat<(t+1-u).toNat:=fun x hx=>by
    refine ⟨_,rfl,⟨by show f≤u+1;omega,.inl (by show u+1≤t+1;omega),by simp only [List.length_append,List.length_cons,List.length_nil];omega,⟨fun h=>by simp at h,fun h=>absurd h hno⟩,?_,fun z hz=> ?_⟩,dec⟩
    ·show ((L++[x]).map Bq.Cs).Pairwise _
     rw [List.map_append,List.pairwise_append]
     exact ⟨h5,by simp,fun z hz w hw=>by
      rw [List.map_singleton,List.mem_singleton] at hw
      have:=(h6 z hz).2
      omega⟩
    ·have hz:z∈(L++[x]).map Bq.Cs:=hz
     rw [List.map_append,List.mem_append] at hz
     rcases hz with hz|hz
     ·have:=h6 z hz;exact ⟨this.1,by show z<u+1;omega⟩
     ·rw [List.map_singleton,List.mem_singleton] at hz
      exact ⟨by omega,by show z<u+1;omega⟩
   by_cases hl:(L.length:Int)>0
   ·rw [decide_eq_true hl,cond_true]
    have hw:IntKind.wrap .i64 ((L.length:Int)-1)=((L.length-1:Nat):Int):=by rw [wrap64 (by omega) (by omega)];omega
    have hx:L[L.length-1]?=some (L[L.length-1]'(by omega)):=List.getElem?_eq_getElem (by omega)
    generalize (L[L.length-1]'(by omega))=x at hx
    rw [hw,Bl hx]
    simp only [Option.bind_some]
    cases x.To==u with
    |true=>
     refine ⟨_,rfl,⟨by show f≤u+1;omega,.inl (by show u+1≤t+1;omega),by simp only [List.length_set];omega,⟨fun h=> ?_,fun h=>absurd h hno⟩,?_,fun z hz=> ?_⟩,dec⟩
     ·have:=congrArg List.length h
      simp only [List.length_set,List.length_nil] at this
      omega
     ·show ((L.set ((L.length-1:Nat):Int).toNat ⟨x.Cs,u+1⟩).map Bq.Cs).Pairwise _
      rw [Int.toNat_natCast,aY (y:=⟨x.Cs,u+1⟩) Bq.Cs hx rfl];exact h5
     ·have hz:z∈(L.set ((L.length-1:Nat):Int).toNat ⟨x.Cs,u+1⟩).map Bq.Cs:=hz
      rw [Int.toNat_natCast,aY (y:=⟨x.Cs,u+1⟩) Bq.Cs hx rfl] at hz
      have:=h6 z hz
      exact ⟨this.1,by show z<u+1;omega⟩
    |false=>
     rw [cond_false,show L.length+([(⟨u,u+1⟩:Bq)]:List Bq).length=L.length+1 from rfl,room,Option.bind_some]
     exact grow _ rfl
   ·rw [decide_eq_false hl,cond_false,show L.length+([(⟨u,u+1⟩:Bq)]:List Bq).length=L.length+1 from rfl,room,Option.bind_some]
    exact grow _ rfl
 ·right
  rw [decide_eq_false hle,cond_false]
  refine ⟨_,rfl,by omega,fin h1 hle (fun w w1 w2=>by omega) h4,h5,fun z hz=>by have:=h6 z hz;omega⟩
structure w4 (n:Nat) (a b:List Ab) (s:Db) (L:List Bq):Prop where
 val:jT n a b s=some L
 len:L.length≤200001
 ord:(L.map Bq.Cs).Pairwise (·<·)
 bd:∀z∈L.map Bq.Cs,0≤z∧z≤200000
theorem qF (n:Nat) (hn:Q2 n) {a b:List Ab} (ha:Cg a) (hb:Cg b) (ca:Kg n a=some 0) (cb:Kg n b=some 0) (s:Db):∃L M,w4 n a b s L∧w4 n b a s M∧(L=[]↔M=[]):=by
 obtain ⟨f,t,h1,h2,f1,f2,t1,t2⟩:=pP n ha hb
 obtain ⟨L,a1,a2,a3,a4,a5⟩:=X7 n hn ha hb ca cb s h1 f1 f2 t1 t2
 obtain ⟨M,b1,b2,b3,b4,b5⟩:=X7 n hn hb ha cb ca s h2 f1 f2 t1 t2
 refine ⟨L,M,⟨a1,a2,a4,a5⟩,⟨b1,b2,b4,b5⟩,a3.trans (Iff.trans ?_ b3.symm)⟩
 constructor
 ·intro h u u1 u2;rw [cO];exact h u u1 u2
 ·intro h u u1 u2;rw [cO];exact h u u1 u2
theorem Wx (n:Nat) (hn:Q2 n) {a b:List Ab} (ca:Kg n a=some 0) (cb:Kg n b=some 0) (s:Db) (hs:gB n s=some 0) {L:List Bq} (hL:jT n a b s=some L):
  ∃r,w9 n a b s=some r∧(r.2==0)= !decide (L=[]):=by
 have hp:g85 n a b s=some (L,0):=by
  unfold g85
  rw [Za n s hs [a,b] (by simp) hn (by simp [ca,cb]),Option.bind_some,show ((0:Int) !=0)=false from rfl,cond_false,hL]
  rfl
 unfold w9
 rw [hp,Option.bind_some,show ((0:Int) !=0)=false from rfl,cond_false]
 cases L with
 |nil=>exact ⟨(0,8),rfl,rfl⟩
 |cons x L=>
  rw [show (((x::L).length:Int)==0)=false by simp;omega,cond_false]
  have:Ch (x::L) 0=some x:=Bl (i:=0) rfl
  rw [show ((x::L),(0:Int)).1=x::L from rfl,this]
  exact ⟨(x.Cs,0),rfl,by simp⟩
def Vr (n:Nat) (l:List (List Ab)) (s:Db) (i j:Nat):List Bq:=((l[i]?).bind fun a=>(l[j]?).bind fun b=>jT n a b s).getD []
def N6 (i j:Nat) (x:Bq):Ao:=⟨(i:Int),(j:Int),x.Cs,IntKind.wrap .i64 (x.To-1)⟩
def Mo (n:Nat) (l:List (List Ab)) (s:Db) (i j:Nat):List Ao:=(Vr n l s i j).map (N6 i j)
def Kd (n:Nat) (l:List (List Ab)) (s:Db) (i:Nat):Nat→List Ao
 |0=>[]
 |w+1=>Kd n l s i w++if i<w then Mo n l s i w else []
def rows (n:Nat) (l:List (List Ab)) (s:Db):Nat→List Ao
 |0=>[]
 |v+1=>rows n l s v++Kd n l s v l.length
theorem bE (n:Nat) (l:List (List Ab)) (s:Db) (i:Nat):∀w,w≤i+1→Kd n l s i w=[]
 |0,_=>rfl
 |w+1,h=>by
  unfold Kd
  rw [bE n l s i w (by omega),if_neg (by omega)];rfl
theorem Qb {n:Nat} {l:List (List Ab)} {s:Db} {i:Nat} {c:Ao}:∀{w:Nat},c∈Kd n l s i w↔∃j,i<j∧j<w∧c∈Mo n l s i j
 |0=>by simp [Kd]
 |w+1=>by
  unfold Kd
  rw [List.mem_append,Qb (w:=w)]
  constructor
  ·rintro (⟨j,h1,h2,h3⟩|h)
   ·exact ⟨j,h1,by omega,h3⟩
   ·by_cases q:i<w
    ·rw [if_pos q] at h;exact ⟨w,q,by omega,h⟩
    ·rw [if_neg q] at h;cases h
  ·rintro ⟨j,h1,h2,h3⟩
   by_cases q:j=w
   ·subst q;exact .inr (by rw [if_pos h1];exact h3)
   ·exact .inl ⟨j,h1,by omega,h3⟩
theorem Qr {n:Nat} {l:List (List Ab)} {s:Db} {c:Ao}:∀{v:Nat},c∈rows n l s v↔∃i j,i<v∧i<j∧j<l.length∧c∈Mo n l s i j
 |0=>by simp [rows]
 |v+1=>by
  unfold rows
  rw [List.mem_append,Qr (v:=v),Qb]
  constructor
  ·rintro (⟨i,j,h1,h2,h3,h4⟩|⟨j,h1,h2,h3⟩)
   ·exact ⟨i,j,by omega,h2,h3,h4⟩
   ·exact ⟨v,j,by omega,h1,h2,h3⟩
  ·rintro ⟨i,j,h1,h2,h3,h4⟩
   by_cases q:i=v
   ·subst q;exact .inr ⟨j,h2,h3,h4⟩
   ·exact .inl ⟨i,j,by omega,h2,h3,h4⟩
def Ru (c:Ao):Int×Int×Int:=(c.Cs,c.A,c.B)
structure Qs (n:Nat) (l:List (List Ab)) (s:Db):Prop where
 sep:gB n s=some 0
 len:l.length≤5
 ck:∀t∈l,Kg n t=some 0∧Cg t
theorem Qs.pair {n:Nat} (hn:Q2 n) {l:List (List Ab)} {s:Db} (h:Qs n l s) {i j:Nat} {a b:List Ab} (hi:l[i]?=some a) (hj:l[j]?=some b):w4 n a b s (Vr n l s i j)∧(Vr n l s i j=[]↔Vr n l s j i=[]):=by
 obtain ⟨c1,t1⟩:=h.ck a (List.mem_of_getElem? hi)
 obtain ⟨c2,t2⟩:=h.ck b (List.mem_of_getElem? hj)
 obtain ⟨L,M,p1,p2,p3⟩:=qF n hn t1 t2 c1 c2 s
 have e1:Vr n l s i j=L:=by unfold Vr;rw [hi,hj];show (jT n a b s).getD []=L;rw [p1.val];rfl
 have e2:Vr n l s j i=M:=by unfold Vr;rw [hi,hj];show (jT n b a s).getD []=M;rw [p2.val];rfl
 rw [e1,e2]
 exact ⟨p1,p3⟩
theorem Qg {n:Nat} {l:List (List Ab)} {s:Db} {i j:Nat} (h:l.length≤i∨l.length≤j):Vr n l s i j=[]:=by
 unfold Vr
 rcases h with h|h
 ·rw [List.getElem?_eq_none h];rfl
 ·rw [List.getElem?_eq_none h];cases l[i]?<;>rfl
section
variable {n:Nat} (hn:Q2 n) {l:List (List Ab)} {s:Db} (h:Qs n l s)
include hn h
theorem kO (i j:Nat):(Vr n l s i j).length≤200001:=by
 by_cases q:i<l.length∧j<l.length
 ·exact (h.pair hn (List.getElem?_eq_getElem q.1) (List.getElem?_eq_getElem q.2)).1.len
 ·rw [Qg (by omega)];show 0≤200001;omega
theorem cV (i j:Nat):((Vr n l s i j).map Bq.Cs).Pairwise (·<·)∧∀z∈(Vr n l s i j).map Bq.Cs,0≤z∧z≤200000:=by
 by_cases q:i<l.length∧j<l.length
 ·have:=(h.pair hn (List.getElem?_eq_getElem q.1) (List.getElem?_eq_getElem q.2)).1
  exact ⟨this.ord,this.bd⟩
 ·rw [Qg (by omega)];simp
theorem Uu (i:Nat):∀w,(Kd n l s i w).length≤w*200001
 |0=>by simp [Kd]
 |w+1=>by
  unfold Kd
  have:=Uu i w
  have h2:(if i<w then Mo n l s i w else []).length≤200001:=by
   split
   ·unfold Mo;rw [List.length_map];exact kO hn h i w
   ·simp
  rw [List.length_append];omega
theorem bL:∀v,(rows n l s v).length≤v*1000005
 |0=>by simp [rows]
 |v+1=>by
  unfold rows
  have:=bL v
  have h1:=Uu hn h v l.length
  have h2:=h.len
  rw [List.length_append]
  have:l.length*200001≤5*200001:=Nat.mul_le_mul_right _ h2
  omega
theorem Oh {i j:Nat} {c:Ao} (hc:c∈Mo n l s i j):c.A=i∧c.B=j∧0≤c.Cs∧c.Cs≤200000:=by
 obtain ⟨x,hx,rfl⟩:=List.mem_map.1 hc
 have:=(cV hn h i j).2 x.Cs (List.mem_map.2 ⟨x,hx,rfl⟩)
 exact ⟨rfl,rfl,this.1,this.2⟩
theorem Adl:∀v,(rows n l s v).Pairwise fun x y=>Ru x≠Ru y:=by
 have hrow:∀i j,(Mo n l s i j).Pairwise fun x y=>Ru x≠Ru y:=fun i j=>by
  unfold Mo
  rw [List.pairwise_map]
  exact (List.pairwise_map.1 (cV hn h i j).1).imp fun {x y} hlt e=>by
   have:x.Cs=y.Cs:=congrArg Prod.fst e
   omega
 have hcols:∀i w,(Kd n l s i w).Pairwise fun x y=>Ru x≠Ru y:=by
  intro i w
  induction w with
  |zero=>exact List.Pairwise.nil
  |succ w ih=>
   unfold Kd
   rw [List.pairwise_append]
   refine ⟨ih,?_,fun x hx y hy e=> ?_⟩
   ·split
    ·exact hrow i w
    ·exact List.Pairwise.nil
   ·obtain ⟨j,j1,j2,j3⟩:=Qb.1 hx
    by_cases q:i<w
    ·rw [if_pos q] at hy
     have e1:=Oh hn h j3
     have e2:=Oh hn h hy
     have:x.B=y.B:=congrArg (fun p=>p.2.2) e
     omega
    ·rw [if_neg q] at hy;cases hy
 intro v
 induction v with
 |zero=>exact List.Pairwise.nil
 |succ v ih=>
  unfold rows
  rw [List.pairwise_append]
  refine ⟨ih,hcols v _,fun x hx y hy e=> ?_⟩
  obtain ⟨i,j,i1,i2,i3,i4⟩:=Qr.1 hx
  obtain ⟨j',k1,k2,k3⟩:=Qb.1 hy
  have e1:=Oh hn h i4
  have e2:=Oh hn h k3
  have:x.A=y.A:=congrArg (fun p=>p.2.1) e
  omega
end
theorem or3 (n:Nat) (hn:4<n) (p q r:Int):g69 n [p,q,r]=some (if p≠0 then p else if q≠0 then q else r):=by
 obtain ⟨k,rfl⟩:∃k,n=k+5:=⟨n-5,by omega⟩
 unfold g69
 have s0:Nk (k+5) 0 [p,q,r] (([p,q,r]:List Int).length:Int) 0=some (if p≠0 then .inr p else .inl 1):=by
  unfold Nk
  rw [decide_eq_true (show (0:Int)<(([p,q,r]:List Int).length:Int) by simp),cond_true,show Ch [p,q,r] 0=some p from Bl (i:=0) rfl,Option.bind_some]
  by_cases h:p=0
  ·rw [h];rfl
  ·rw [bne_iff_ne.2 h,cond_true,if_pos h]
 have s1:Nk (k+5) 0 [p,q,r] (([p,q,r]:List Int).length:Int) 1=some (if q≠0 then .inr q else .inl 2):=by
  unfold Nk
  rw [decide_eq_true (show (1:Int)<(([p,q,r]:List Int).length:Int) by simp),cond_true,show Ch [p,q,r] 1=some q from Bl (i:=1) rfl,Option.bind_some]
  by_cases h:q=0
  ·rw [h];rfl
  ·rw [bne_iff_ne.2 h,cond_true,if_pos h]
 have s2:Nk (k+5) 0 [p,q,r] (([p,q,r]:List Int).length:Int) 2=some (if r≠0 then .inr r else .inl 3):=by
  unfold Nk
  rw [decide_eq_true (show (2:Int)<(([p,q,r]:List Int).length:Int) by simp),cond_true,show Ch [p,q,r] 2=some r from Bl (i:=2) rfl,Option.bind_some]
  by_cases h:r=0
  ·rw [h];rfl
  ·rw [bne_iff_ne.2 h,cond_true,if_pos h]
 have s3:Nk (k+5) 0 [p,q,r] (([p,q,r]:List Int).length:Int) 3=some (.inr 0):=by
  unfold Nk
  rw [decide_eq_false (show ¬(3:Int)<(([p,q,r]:List Int).length:Int) by simp)];rfl
 unfold Bw
 rw [s0]
 by_cases hp:p=0
 ·rw [if_neg (by omega),if_neg (by omega)]
  show Bw _ (k+4) 1=_
  unfold Bw
  rw [s1]
  by_cases hq:q=0
  ·rw [if_neg (by omega),if_neg (by omega)]
   show Bw _ (k+3) 2=_
   unfold Bw
   rw [s2]
   by_cases hr:r=0
   ·rw [if_neg (by omega)]
    show Bw _ (k+2) 3=_
    unfold Bw
    rw [s3,hr]
   ·rw [if_pos hr]
  ·rw [if_pos hq,if_pos hq]
 ·rw [if_pos hp,if_pos hp]
def BdC (c:Ao):Prop:=0≤c.Cs∧c.Cs≤200000∧0≤c.A∧c.A≤1000∧0≤c.B∧c.B≤1000
def Wd (x y:Ao):Int:=if x.Cs-y.Cs≠0 then x.Cs-y.Cs else if x.A-y.A≠0 then x.A-y.A else x.B-y.B
theorem mR (n:Nat) (hn:4<n) {x y:Ao} (hx:BdC x) (hy:BdC y):Yp n x y=some (Wd x y):=by
 obtain ⟨x1,x2,x3,x4,x5,x6⟩:=hx
 obtain ⟨y1,y2,y3,y4,y5,y6⟩:=hy
 unfold Yp
 rw [wrap64 (z:=x.Cs-y.Cs) (by omega) (by omega),wrap64 (z:=x.A-y.A) (by omega) (by omega),wrap64 (z:=x.B-y.B) (by omega) (by omega),or3 n hn]
 rfl
theorem gT (n:Nat) (hn:4<n) (L:List Ao) (hb:∀c∈L,BdC c) (hp:L.Pairwise fun x y=>Ru x≠Ru y) (hlen:L.length≤10000000):∃k,Pc (fun x y=>Yp n x y) L=some k∧k.Perm L:=by
 have hv:∀x∈L,∀y∈L,Yp n x y=some (Wd x y):=fun x hx y hy=>mR n hn (hb x hx) (hb y hy)
 have hlt:∀x∈L,∀y∈L,(Mi (fun x y=>Yp n x y) x y=true↔Wd x y<0):=fun x hx y hy=>by
  show decide ((Yp n x y).getD 0<0)=true↔_
  rw [hv x hx y hy,decide_eq_true_eq]
  exact Iff.rfl
 have c3:∀x y:Ao,(Wd x y<0∧0<Wd y x)∨(0<Wd x y∧Wd y x<0)∨Ru x=Ru y:=fun x y=>by
  unfold Wd
  by_cases e1:x.Cs=y.Cs
  ·by_cases e2:x.A=y.A
   ·by_cases e3:x.B=y.B
    ·exact .inr (.inr (by unfold Ru;rw [e1,e2,e3]))
    ·rw [if_neg (by omega),if_neg (by omega),if_neg (by omega),if_neg (by omega)];omega
   ·rw [if_neg (by omega),if_pos (by omega),if_neg (by omega),if_pos (by omega)];omega
  ·rw [if_pos (by omega),if_pos (by omega)];omega
 have ho:Rc (fun x y=>Yp n x y) L:=by
  refine ⟨fun x hx y hy=>⟨_,hv x hx y hy⟩,fun x hx y hy=> ?_,fun x hx y hy h=> ?_,fun x hx y hy z hz h1 h2=> ?_⟩
  ·rcases c3 x y with ⟨k,-⟩|⟨-,k⟩|k
   ·exact .inl ((hlt x hx y hy).2 k)
   ·exact .inr (.inl ((hlt y hy x hx).2 k))
   ·exact .inr (.inr (Aap Ru hp x hx y hy k))
  ·have h1:=(hlt x hx y hy).1 h
   cases hq:Mi (fun x y=>Yp n x y) y x with
   |false=>rfl
   |true=>
    have h2:=(hlt y hy x hx).1 hq
    rcases c3 x y with ⟨-,k⟩|⟨k,-⟩|k
    ·omega
    ·omega
    ·unfold Ru at k
     have k1:x.Cs=y.Cs:=congrArg Prod.fst k
     have k2:x.A=y.A:=congrArg (fun p=>p.2.1) k
     have k3:x.B=y.B:=congrArg (fun p=>p.2.2) k
     unfold Wd at h1
     rw [if_neg (by omega),if_neg (by omega)] at h1
     omega
  ·have k1:=(hlt x hx y hy).1 h1
   have k2:=(hlt y hy z hz).1 h2
   refine (hlt x hx z hz).2 ?_
   unfold Wd at k1 k2 ⊢
   split at k1<;>split at k2<;>split<;>(try split at k1)<;>(try split at k2)<;>(try split)<;>omega
 have e:Pc (fun x y=>Yp n x y) L=some (Sw (Mi (fun x y=>Yp n x y)) L):=by
  unfold Pc
  rw [Xk.2 ho,decide_eq_true (show L.length<4611686018427387904 by omega)];rfl
 exact ⟨_,e,(Ks e).1⟩
section
variable {n:Nat} (hn:Q2 n) {l:List (List Ab)} {s:Db} (h:Qs n l s)
include hn h
theorem Aad (i j:Nat) (hi:i<5) (hj:j<5) (c28:Int) (L0:List Ao) (hL:L0.length≤10000000):Bw (fun y:Int×List Ao=>Gt n l 0 (i:Int) (j:Int) c28 (Vr n l s i j) ((Vr n l s i j).length:Int) s.Bf s.A9 y.1 y.2) n ((0),L0)=some (.inl (((j+1:Nat):Int),L0++Mo n l s i j)):=by
 have hlen:=kO hn h i j
 unfold Mo
 generalize Vr n l s i j=R at*
 refine J7 (S:=fun y:Int×List Ao=>Gt n l 0 (i:Int) (j:Int) c28 R (R.length:Int) s.Bf s.A9 y.1 y.2) (fun y=>∃k:Nat,k≤R.length∧y=((k:Int),L0++(R.take k).map (N6 i j))) _ (fun y=>R.length-y.1.toNat) ?_ n _ ⟨0,Nat.zero_le _,by simp⟩ (by unfold Q2 at hn;show R.length-(0:Int).toNat<n;omega)
 rintro _ ⟨k,hk,rfl⟩
 show (∃y,Gt n l 0 (i:Int) (j:Int) c28 R (R.length:Int) s.Bf s.A9 (k:Int) (L0++(R.take k).map (N6 i j))=some (.inl y)∧_)∨Gt n l 0 (i:Int) (j:Int) c28 R (R.length:Int) s.Bf s.A9 (k:Int) (L0++(R.take k).map (N6 i j))=_
 unfold Gt
 rcases Nat.lt_or_ge k R.length with hlt|hge
 ·left
  have hx:R[k]?=some R[k]:=List.getElem?_eq_getElem hlt
  generalize R[k]=x at hx
  have ht:R.take (k+1)=R.take k++[x]:=by rw [List.take_add_one,hx];rfl
  rw [decide_eq_true (show (k:Int)<(R.length:Int) by omega),cond_true,Bl hx,Option.bind_some,wS (by omega),Fk (by simp only [List.length_append,List.length_map,List.length_take,List.length_cons,List.length_nil];omega) (by simp only [List.length_append,List.length_map,List.length_take,List.length_cons,List.length_nil];omega),Option.bind_some]
  refine ⟨_,rfl,⟨k+1,hlt,?_⟩,by show R.length-((k+1:Nat):Int).toNat<R.length-(k:Int).toNat;omega⟩
  rw [ht,List.map_append,← List.append_assoc];rfl
 ·right
  rw [List.take_of_length_le hge,decide_eq_false (show ¬(k:Int)<(R.length:Int) by omega),cond_false,wS (by omega)]
theorem uS (i:Nat) (hi:i<l.length) (c28:Int) (L0:List Ao) (hL:L0.length≤6000000):Bw (fun y:Int×List Ao=>Iw n l 0 (i:Int) c28 s.Bf s.A9 y.1 y.2) n (((i+1:Nat):Int),L0)=some (.inl (((i+1:Nat):Int),L0++Kd n l s i l.length)):=by
 have hlen:=h.len
 refine J7 (S:=fun y:Int×List Ao=>Iw n l 0 (i:Int) c28 s.Bf s.A9 y.1 y.2) (fun y=>∃w:Nat,i+1≤w∧w≤l.length∧y=((w:Int),L0++Kd n l s i w)) _ (fun y=>l.length-y.1.toNat) ?_ n _ ⟨i+1,Nat.le_refl _,hi,by rw [bE n l s i (i+1) (Nat.le_refl _),List.append_nil]⟩ (by unfold Q2 at hn;show l.length - _<n;omega)
 rintro _ ⟨w,hw1,hw,rfl⟩
 show (∃y,Iw n l 0 (i:Int) c28 s.Bf s.A9 (w:Int) (L0++Kd n l s i w)=some (.inl y)∧_)∨Iw n l 0 (i:Int) c28 s.Bf s.A9 (w:Int) (L0++Kd n l s i w)=_
 unfold Iw
 rcases Nat.lt_or_ge w l.length with hlt|hge
 ·left
  have hx:l[i]?=some l[i]:=List.getElem?_eq_getElem hi
  have hy:l[w]?=some l[w]:=List.getElem?_eq_getElem hlt
  have hp:=(h.pair hn hx hy).1.val
  have hcl:=Uu hn h i w
  have:w*200001≤5*200001:=Nat.mul_le_mul_right _ (by omega)
  rw [decide_eq_true (show (w:Int)<(l.length:Int) by omega),cond_true,Bl hx,Option.bind_some,Bl hy,Option.bind_some,show (⟨s.Bf,s.A9⟩:Db)=s from rfl,hp,Option.bind_some,Aad hn h i w (by omega) (by omega) c28 (L0++Kd n l s i w) (by rw [List.length_append];omega)]
  refine ⟨_,rfl,⟨w+1,by omega,hlt,?_⟩,by show l.length-((w+1:Nat):Int).toNat<l.length-(w:Int).toNat;omega⟩
  rw [show Kd n l s i (w+1)=Kd n l s i w++if i<w then Mo n l s i w else [] from rfl,if_pos (by omega),List.append_assoc]
 ·right
  have:w=l.length:=by omega
  subst this
  rw [decide_eq_false (Int.lt_irrefl _),cond_false,wS (by omega)]
end
theorem mW (n:Nat) (s:Db):gB n s=some 0∨∃z,z≠0∧gB n s=some z:=by
 unfold gB
 cases decide (s.Bf<0)<;>cases decide (s.Bf>1000000)<;>cases decide (s.A9<0)<;>cases decide (s.A9>60000)<;>first|exact .inl rfl|exact .inr ⟨4,by decide,rfl⟩
end Go.Proofs.YtkdodbfnocdkdaaGreatDoor
set_option linter.unusedVariables false
set_option linter.unusedSimpArgs false
set_option linter.unusedSectionVars false
set_option maxHeartbeats 4000000
namespace Go.Proofs.YtkdodbfnocdkdaaGreatDoor
theorem oT {α:Type} (l:List α) (i:Nat) (h:i≤l.length):F0 l none (some (i:Int))=some (l.take i):=by
 simp only [F0,Option.getD_none,Option.getD_some]
 rw [if_pos ⟨Int.le_refl _,by omega,by omega⟩]
 simp
theorem tP {α ρ:Type} (p:α→Bool) (l:List α) {S:Int×Int×List α→Option ((Int×Int×List α)⊕ρ)} (r:ρ)
  (hs:∀(i j:Nat) (L:List α) (x:α),L.length=l.length→i<j→L[j]?=some x→S ((i:Int),(j:Int),L)=some (.inl (if p x then ((i:Int),((j+1:Nat):Int),L) else (((i+1:Nat):Int),((j+1:Nat):Int),L.set i x))))
  (h0:∀(i:Nat) (L:List α),L.length=l.length→i<l.length→L.take i=l.filter (fun x=> !p x)→S ((i:Int),(l.length:Int),L)=some (.inr r)) (n:Nat) (hn:l.length<n) (i0:Nat) (hi0:i0<l.length) (hp0:∀x,l[i0]?=some x→p x=true) (hlt:∀(j:Nat) (x:α),j<i0→l[j]?=some x→p x=false):
  Bw S n ((i0:Int),((i0+1:Nat):Int),l)=some r:=by
 have hf0:l.take i0=(l.take (i0+1)).filter (fun x=> !p x):=by
  rw [List.take_succ_eq_append_getElem hi0,List.filter_append,List.filter_cons_of_neg (by simp [hp0 _ (List.getElem?_eq_getElem hi0)]),List.filter_nil,List.append_nil]
  symm
  rw [List.filter_eq_self]
  intro x hx
  rw [List.mem_take_iff_getElem] at hx
  obtain ⟨j,hj,rfl⟩:=hx
  rw [hlt j _ (by omega) (List.getElem?_eq_getElem (by omega))];rfl
 refine J7 (fun y=>∃(i j:Nat) (L:List α),y=((i:Int),(j:Int),L)∧i<j∧j≤l.length∧L.length=l.length∧L.take i=(l.take j).filter (fun x=> !p x)∧L.drop j=l.drop j) _ (fun y=>l.length-y.2.1.toNat) ?_ n _ ⟨i0,i0+1,l,rfl,by omega,hi0,rfl,hf0,rfl⟩ (by simp;omega)
 rintro _ ⟨i,j,L,rfl,hij,hj,hL,ht,hd⟩
 rcases Nat.lt_or_ge j l.length with hjl|hge
 ·have hx:l[j]?=some l[j]:=List.getElem?_eq_getElem hjl
  have htk:=List.take_succ_eq_append_getElem hjl
  generalize l[j]=x at hx htk
  have hLx:L[j]?=some x:=by
   have:=congrArg (fun q=>q[0]?) hd
   simpa [List.getElem?_drop,hx] using this
  have hS:=hs i j L x hL hij hLx
  have hdd:L.drop (j+1)=l.drop (j+1):=by
   have:=congrArg (List.drop 1) hd
   simpa [List.drop_drop] using this
  cases hp:p x with
  |true=>
   rw [hp] at hS
   refine .inl ⟨_,hS,⟨i,j+1,L,rfl,by omega,hjl,hL,?_,hdd⟩,by simp;omega⟩
   rw [htk,List.filter_append,List.filter_cons_of_neg (by simp [hp]),List.filter_nil,List.append_nil,ht]
  |false=>
   rw [hp] at hS
   refine .inl ⟨_,hS,⟨i+1,j+1,L.set i x,rfl,by omega,hjl,by simpa using hL,?_,?_⟩,by simp;omega⟩
   ·rw [htk,List.filter_append,List.filter_cons_of_pos (by simp [hp]),List.filter_nil,← ht]
    have hi':i<(L.set i x).length:=by simp;omega
    rw [List.take_succ_eq_append_getElem hi',List.getElem_set_self,List.take_set_of_le (Nat.le_refl _)]
   ·rw [List.drop_set_of_lt (by omega)];exact hdd
 ·have:j=l.length:=by omega
  subst this
  rw [List.take_length] at ht
  exact .inr (h0 i L hL hij ht)
def Iq (i:Int) (x:Ao):Bool:=x.A==i||x.B==i
theorem Ad4 (n:Nat) (l:List Ao) (nm:Int) (hl:l.length≤1000) (hn:l.length<n):g15 n l nm=some (l.filter fun d=> !Iq nm d):=by
 unfold g15
 have e:g70 n l nm=some (Ef (Iq nm) l):=by
  unfold g70
  exact Ii (Iq nm) l (by omega) (S:=fun y:Int=>W7 n l nm 0 (l.length:Int) y) (fun i x' hx=>by
   have:=Dt hx
   unfold W7 g17
   rw [decide_eq_true (show (i:Int)<_ by omega),Bl hx,wS (by omega)]
   simp only [cond_true,Option.bind_some,Iq]
   rcases Bool.eq_false_or_eq_true (x'.A==nm) with h|h<;>rcases Bool.eq_false_or_eq_true (x'.B==nm) with h2|h2<;>simp [h,h2]) (by
   unfold W7
   simp) n hn
 rw [e]
 simp only [Option.bind_some]
 have hge:=Og (Iq nm) l
 by_cases h:Ef (Iq nm) l<0
 ·rw [show (Ef (Iq nm) l== -1)=true from beq_iff_eq.2 (by omega),cond_true]
  congr 1
  symm
  rw [List.filter_eq_self]
  intro x hx
  have:=(Lf _ _).1 h x hx
  rw [this];rfl
 ·obtain ⟨x0,k1,k2,k3⟩:=Q1 (Iq nm) l (by omega)
  rw [show (Ef (Iq nm) l== -1)=false from beq_eq_false_iff_ne.2 (by omega),cond_false]
  generalize hi:(Ef (Iq nm) l).toNat=i at k1 k3
  have hi':Ef (Iq nm) l=(i:Int):=by omega
  have hlt:=Dt k1
  rw [hi',wS (by omega)]
  refine tP (Iq nm) l _ (fun i j L x hL hij hx=> ?_) (fun i L hL hil ht=> ?_) n hn i hlt (fun x hx=>by rw [k1] at hx;cases hx;exact k2) (fun j x hj hx=>k3 j hj x hx)
  ·have:=Dt hx
   show Pn n nm (i:Int) (j:Int) L=_
   unfold Pn g17
   rw [decide_eq_true (show (j:Int)<(L.length:Int) by omega),Bl hx]
   simp only [cond_true,Option.bind_some,wS (show j<9223372036854775807 by omega),wS (show i<9223372036854775807 by omega),Int.toNat_natCast]
   unfold Iq
   have hy:L[i]?=some (L[i]'(by omega)):=List.getElem?_eq_getElem (by omega)
   rcases Bool.eq_false_or_eq_true (x.A==nm) with h1|h1<;>rcases Bool.eq_false_or_eq_true (x.B==nm) with h2|h2<;>simp [h1,h2,Bl hy]
  ·show Pn n nm (i:Int) (l.length:Int) L=_
   unfold Pn
   rw [decide_eq_false (show ¬(l.length:Int)<(L.length:Int) by omega),cond_false]
   have s1:F0 L (some (i:Int)) none=some (L.drop i):=by
    simp only [F0,Option.getD_none,Option.getD_some]
    rw [if_pos ⟨by omega,by omega,Int.le_refl _⟩,Int.toNat_natCast,List.take_of_length_le]
    rw [List.length_drop];omega
   rw [s1]
   simp only [Option.bind_some]
   have hne:neO (L.drop i)=some ():=by
    cases hq:L.drop i with
    |nil=>rw [List.drop_eq_nil_iff] at hq;omega
    |cons a r=>rfl
   rw [hne]
   simp only [Option.bind_some,Int.toNat_natCast]
   have hcl:∀z:Ao,(Oz z L (L.drop i) i).take i=L.take i:=by
    intro z
    unfold Oz
    rw [List.append_assoc,List.take_append_of_le_length (by simp;omega),List.take_take,Nat.min_self]
   rw [oT _ i (by unfold Oz;simp;omega),hcl,ht]
   rfl
theorem Alb (n:Nat) (hn:1000<n) (L M:List Ao) (hl:L.length≤300) (hm:M.length≤300) (h:L=M):g18 n L M=some true:=by
 subst h
 unfold g18
 rw [bne_self_eq_false,cond_false]
 have:=gR L L rfl (S:=fun y:Int=>Tp n L L false (L.length:Int) y) (fun i x y hx hy=>by
  have hi:=Dt hx
  show Tp n L L false (L.length:Int) (i:Int)=_
  unfold Tp
  have hxy:x=y:=by rw [hx] at hy;exact Option.some.inj hy
  subst hxy
  rw [decide_eq_true (show (i:Int)<(L.length:Int) by omega),Bl hx,wS (by omega)]
  simp only [cond_true,Option.bind_some]
  simp) (by
  show Tp n L L false (L.length:Int) (L.length:Int)=_
  unfold Tp
  rw [decide_eq_false (show ¬(L.length:Int)<(L.length:Int) by omega)];rfl) n (by omega)
 rw [this,decide_eq_true rfl]
theorem qV (n:Nat) (hn:16<n) {c:Ae} (hc:Po n c=some 0):Hq c∧g7 n c=some (L2 c,0):=by
 unfold g7
 rcases cL n hn c with ⟨z,hz,h⟩|⟨h,hs⟩
 ·rw [hc] at h
  exact absurd (Option.some.inj h).symm hz
 ·refine ⟨hs,?_⟩
  rw [h]
  obtain ⟨w7,-⟩:=Lo hs
  obtain ⟨r8,-,-⟩:=Ip hs
  obtain ⟨c1,c8,-,-⟩:=hs.call
  have e32:(⟨#[32]⟩:ByteArray).size=1:=rfl
  simp only [Option.bind_some,bne_self_eq_false,cond_false,Adu n hs]
  rw [Sj (a:=Fx c++⟨#[32]⟩++Fm c) (by rw [G3,G3];omega)]
  simp only [Option.bind_some]
  rw [Sj (by rw [G3,G3,G3];omega)]
  rfl
section
variable {n:Nat} (hn:Q2 n) {l:List (List Ab)} {s:Db} (h:Qs n l s)
include hn h
theorem jX:∃r,g12 n l s=some r∧(r=([],2)∨(r.2=0∧r.1.Perm (rows n l s l.length)∧r.1.Pairwise (fun a b=>Mi (fun x y=>Yp n x y) b a=false)∧Rc (fun x y=>Yp n x y) (rows n l s l.length)∧r.1.length≤256)):=by
 have hlen:=h.len
 have hn64:64<n:=by unfold Q2 at hn;omega
 unfold g12
 rw [h.sep,Option.bind_some,show ((0:Int) !=0)=false from rfl,cond_false,decide_eq_false (show ¬(l.length:Int)>24 by omega),cond_false,Za n s h.sep l (by omega) hn (fun t ht=>(h.ck t ht).1),Option.bind_some,show ((0:Int) !=0)=false from rfl,cond_false]
 refine Ei (S:=fun y:Int×List Ao=>Qq n l (0) (l.length:Int) s.Bf s.A9 y.1 y.2) (fun y=>∃v:Nat,v≤l.length∧y=((v:Int),rows n l s v)) _ (fun y=>l.length-y.1.toNat) ?_ n _ ⟨0,Nat.zero_le _,rfl⟩ (by show l.length-(0:Int).toNat<n;omega)
 rintro _ ⟨v,hv,rfl⟩
 show (∃y,Qq n l (0) (l.length:Int) s.Bf s.A9 (v:Int) (rows n l s v)=some (.inl y)∧_)∨∃r,Qq n l (0) (l.length:Int) s.Bf s.A9 (v:Int) (rows n l s v)=some (.inr r)∧_
 have hrl:=bL hn h v
 have hv5:v*1000005≤5*1000005:=Nat.mul_le_mul_right _ (by omega)
 unfold Qq
 rcases Nat.lt_or_ge v l.length with hlt|hge
 ·left
  rw [decide_eq_true (show (v:Int)<(l.length:Int) by omega),cond_true,wS (by omega),uS hn h v hlt (l.length:Int) (rows n l s v) (by omega)]
  exact ⟨_,rfl,⟨v+1,hlt,rfl⟩,by show l.length-((v+1:Nat):Int).toNat<l.length-(v:Int).toNat;omega⟩
 ·right
  have:v=l.length:=by omega
  subst this
  rw [decide_eq_false (Int.lt_irrefl _),cond_false]
  by_cases c:((rows n l s l.length).length:Int)>256
  ·rw [decide_eq_true c,cond_true];exact ⟨_,rfl,.inl rfl⟩
  ·rw [decide_eq_false c,cond_false]
   obtain ⟨k,hk,hkp⟩:=gT n (by omega) (rows n l s l.length) (fun c hc=>by
    obtain ⟨i,j,i1,i2,i3,i4⟩:=Qr.1 hc
    have:=Oh hn h i4
    unfold BdC;omega) (Adl hn h l.length) (by omega)
   rw [hk,Option.bind_some]
   obtain ⟨f1,f2,f3⟩:=Ks hk
   exact ⟨_,rfl,.inr ⟨rfl,hkp,f2,f3,by have:=hkp.length_eq;show k.length≤256;omega⟩⟩
end
section
variable {n:Nat} (hn:Q2 n) {l:List (List Ab)} (hl:l.length≤24) (hok:∀x∈l,Cg x∧Kg n x=some 0) (i:Int) (s:Db)
include hn hl hok
theorem oI:(∃z,z≠0∧g43 n l i s=some z)∨(g43 n l i s=some 0∧gB n s=some 0∧0≤i∧i<(l.length:Int)):=by
 have loop:∀v:Int,Nv n l i (0) (l.length:Int) (l.length:Int)=some (.inr v)→Bw (fun y:Int=>Nv n l i (0) (l.length:Int) y) n (0)=some v:=fun v h0=>by
  obtain ⟨r,hr,hq⟩:=Oi (S:=fun y:Int=>Nv n l i (0) (l.length:Int) y) l (fun _ _=>True) (fun _=>False) v (fun k x hx=>by
   have:=Dt hx
   refine .inl ⟨?_,trivial⟩
   show Nv n l i (0) (l.length:Int) (k:Int)=_
   unfold Nv
   rw [decide_eq_true (show (k:Int)<_ by omega),cond_true,Bl hx,Option.bind_some,(hok x (List.mem_of_getElem? hx)).2,Option.bind_some,show ((0:Int) !=0)=false from rfl,cond_false,wS (by omega)]) h0 n (by unfold Q2 at hn;omega)
  rcases hq with k|⟨rfl,-⟩
  ·exact k.elim
  ·exact hr
 unfold g43
 rcases mW n s with e|⟨z,hz,e⟩
 case inr=>rw [e,Option.bind_some,bne_iff_ne.2 hz,cond_true];exact .inl ⟨z,hz,rfl⟩
 rw [e,Option.bind_some,show ((0:Int) !=0)=false from rfl,cond_false,decide_eq_false (show ¬(l.length:Int)>24 by omega),cond_false]
 by_cases h1:i<0
 ·refine .inl ⟨4,by decide,loop 4 ?_⟩
  unfold Nv
  rw [decide_eq_false (Int.lt_irrefl _),cond_false,decide_eq_true h1,cond_true]
 by_cases h2:i≥(l.length:Int)
 ·refine .inl ⟨4,by decide,loop 4 ?_⟩
  unfold Nv
  rw [decide_eq_false (Int.lt_irrefl _),cond_false,decide_eq_false h1,cond_false,decide_eq_true h2,cond_true]
 refine .inr ⟨loop 0 ?_,rfl,by omega,by omega⟩
 unfold Nv
 rw [decide_eq_false (Int.lt_irrefl _),cond_false,decide_eq_false h1,cond_false,decide_eq_false h2,cond_false]
def Acc (n:Nat) (l:List (List Ab)) (i:Int) (own:List Ab) (t:Int) (k:Dg) (s:Db) (c:Ae):Prop:=∃m,g11 n own c t k ⟨0,0⟩=some (m,0)∧Clear n l i m s
theorem sJ (call:ByteArray) (t:Int) (k:Dg):(∃z,z≠0∧g6 n l i s call t k=some ((⟨(⟨#[]⟩:ByteArray),(0),(0),(⟨#[]⟩:ByteArray)⟩:Ae),[],z))∨
  (gB n s=some 0∧∃(own:List Ab) (L:List Ae) (j:Nat) (c:Ae) (m:List Ab),Ch l i=some own∧g44 n call own t k=some (L,0)∧L.length≤100∧L[j]?=some c∧g6 n l i s call t k=some (c,m,0)∧g11 n own c t k ⟨0,0⟩=some (m,0)∧Clear n l i m s∧¬Clear n l i own s∧Po n c=some 0∧(Cg own∧Kg n own=some 0)∧∀(j':Nat) (y:Ae),j'<j→L[j']?=some y→¬Acc n l i own t k s y):=by
 have hb:4000000000<n:=hn
 unfold g6
 rcases oI hn hl hok i s with ⟨z,hz,e⟩|⟨e,hs,i0,i1⟩
 ·rw [e,Option.bind_some,bne_iff_ne.2 hz,cond_true];exact .inl ⟨z,hz,rfl⟩
 rw [e,Option.bind_some,show ((0:Int) !=0)=false from rfl,cond_false]
 obtain ⟨w,rfl⟩:∃w:Nat,i=(w:Int):=⟨i.toNat,by omega⟩
 have hx:l[w]?=some l[w]:=List.getElem?_eq_getElem (by omega)
 generalize l[w]=own at hx
 obtain ⟨ho,co⟩:=hok own (List.mem_of_getElem? hx)
 rw [Bl hx,Option.bind_some]
 rcases iW n (by omega) call own t k with ⟨z,hz,e⟩|⟨H,S,A,J,e,hJ,en,hk3,hk1,hk2⟩
 ·rw [e,Option.bind_some,bne_iff_ne.2 hz,cond_true];exact .inl ⟨z,hz,rfl⟩
 have hL:(J.map (cf call H S A)).length≤100:=by
  rw [List.length_map]
  exact Nat.le_trans hJ.len (by decide)
 rw [e,Option.bind_some]
 dsimp only
 rw [show ((0:Int) !=0)=false from rfl,cond_false,Option.bind_some]
 have hgood:∀c∈J.map (cf call H S A),Po n c=some 0:=by
  intro c hc
  obtain ⟨p,hp,rfl⟩:=List.mem_map.1 hc
  obtain ⟨d1,d2,d3⟩:=zA p (hJ.1.subset hp)
  obtain ⟨o1,o2⟩:=hJ.2 p hp
  unfold cf
  by_cases c0:p.1=0
  ·rw [if_pos c0]
   have:=o1 c0
   exact V6 en (.inl ⟨rfl,rfl⟩) (by omega) (by omega)
  ·rw [if_neg c0]
   by_cases c2:p.1=2
   ·rw [if_pos c2]
    have:=o2 c2
    exact V6 en (.inr (.inr ⟨rfl,rfl⟩)) (by omega) (by omega)
   ·rw [if_neg c2]
    exact V6 en (.inr (.inl ⟨rfl,rfl⟩)) (by omega) (by omega)
 obtain ⟨b,hb1,hb0⟩:=eD hn hl hok (w:Int) ho co hs
 rw [hb1,Option.bind_some]
 cases b
 case true=>rw [cond_true];exact .inl ⟨11,by decide,rfl⟩
 rw [cond_false]
 have hnc:¬Clear n l (w:Int) own s:=fun q=>by
  have:=hb0.2 q
  cases this
 generalize J.map (cf call H S A)=L at*
 obtain ⟨r,hr,hq⟩:=gG (S:=fun y:Int×ByteArray×Int×Int×ByteArray=>Wj n l (w:Int) t (0) L (L.length:Int) s.Bf s.A9 k.Name k.Fa k.B8 k.C5 k.Cb k.Eg k.Eh (⟨#[]⟩:ByteArray) y.1 y.2.1 y.2.2.1 y.2.2.2.1 y.2.2.2.2) (fun q=>((q:Int),(⟨#[]⟩:ByteArray),(0:Int),(0:Int),(⟨#[]⟩:ByteArray))) (fun y=>L.length-y.1.toNat) L (fun q=>by simp) (fun _ y=>¬Acc n l (w:Int) own t k s y) (fun j c r=>∃m,r=(c,m,0)∧g11 n own c t k ⟨0,0⟩=some (m,0)∧Clear n l (w:Int) m s) ((⟨(⟨#[]⟩:ByteArray),(0),(0),(⟨#[]⟩:ByteArray)⟩:Ae),[],(8)) (fun q c hc=>by
  have hlt:=Dt hc
  show (Wj n l (w:Int) t (0) L (L.length:Int) s.Bf s.A9 k.Name k.Fa k.B8 k.C5 k.Cb k.Eg k.Eh (⟨#[]⟩:ByteArray) (q:Int) (⟨#[]⟩:ByteArray) (0) (0) (⟨#[]⟩:ByteArray)=_∧_)∨∃r,Wj n l (w:Int) t (0) L (L.length:Int) s.Bf s.A9 k.Name k.Fa k.B8 k.C5 k.Cb k.Eg k.Eh (⟨#[]⟩:ByteArray) (q:Int) (⟨#[]⟩:ByteArray) (0) (0) (⟨#[]⟩:ByteArray)=some (.inr r)∧_
  unfold Wj
  rw [decide_eq_true (show (q:Int)<_ by omega),cond_true,Bl hc,Option.bind_some,Bl hx,Option.bind_some,wS (by omega)]
  obtain ⟨⟨m,z⟩,he,hm⟩:=jV n (by omega) own c t k ⟨0,0⟩
  rw [show (⟨k.Name,k.Fa,k.B8,k.C5,k.Cb,k.Eg,k.Eh⟩:Dg)=k from rfl,he,Option.bind_some]
  dsimp only
  by_cases hz:z=0
  ·subst hz
   obtain ⟨m1,m2⟩:=hm rfl
   obtain ⟨b,hb1,hb2⟩:=eD hn hl hok (w:Int) m1 m2 hs
   rw [show ((0:Int)==0)=true from rfl,cond_true,show (⟨s.Bf,s.A9⟩:Db)=s from rfl,hb1,Option.bind_some]
   cases b
   ·refine .inl ⟨rfl,fun ⟨m',h1,h2⟩=> ?_⟩
    rw [he] at h1
    cases h1
    have:=hb2.2 h2
    cases this
   ·exact .inr ⟨_,rfl,m,rfl,(by first|exact he|rfl),hb2.1 rfl⟩
  ·rw [beq_eq_false_iff_ne.2 hz,cond_false]
   refine .inl ⟨rfl,fun ⟨m',h1,h2⟩=> ?_⟩
   rw [he] at h1
   cases h1
   exact hz rfl) (by
  show Wj n l (w:Int) t (0) L (L.length:Int) s.Bf s.A9 k.Name k.Fa k.B8 k.C5 k.Cb k.Eg k.Eh (⟨#[]⟩:ByteArray) (L.length:Int) (⟨#[]⟩:ByteArray) (0) (0) (⟨#[]⟩:ByteArray)=_
  unfold Wj
  rw [decide_eq_false (Int.lt_irrefl _)];rfl) n (by omega)
 rw [show Bw (fun y:Int×ByteArray×Int×Int×ByteArray=>Wj n l (w:Int) t (0) L (L.length:Int) s.Bf s.A9 k.Name k.Fa k.B8 k.C5 k.Cb k.Eg k.Eh (⟨#[]⟩:ByteArray) y.1 y.2.1 y.2.2.1 y.2.2.2.1 y.2.2.2.2) n ((0),(⟨#[]⟩:ByteArray),(0),(0),(⟨#[]⟩:ByteArray))=some r from hr]
 rcases hq with ⟨j,c,hc,⟨m,rfl,k1,k2⟩,k3⟩|⟨rfl,-⟩
 ·exact .inr ⟨hs,own,L,j,c,m,(by first|exact Bl hx|rfl),(by first|exact e|rfl),hL,hc,rfl,k1,k2,hnc,hgood c (List.mem_of_getElem? hc),⟨ho,co⟩,k3⟩
 ·exact .inl ⟨8,by decide,rfl⟩
end
end Go.Proofs.YtkdodbfnocdkdaaGreatDoor
set_option linter.unusedVariables false
set_option linter.unusedSimpArgs false
set_option linter.unusedSectionVars false
set_option maxHeartbeats 4000000
namespace Go.Proofs.YtkdodbfnocdkdaaGreatDoor
theorem Xl (n:Nat) (hn:64<n) (t:List Ab) (w:Int):∃b,xC n t w=some b∧(b=false→Cg t∧Kg n t=some 0):=by
 unfold xC
 rcases Ss n hn t with ⟨e,ok⟩|⟨z,hz,e⟩
 ·have hp:=ok.pos
  have hl:=ok.len
  have h0:t[0]?=some t[0]:=List.getElem?_eq_getElem hp
  have h1:t[t.length-1]?=some t[t.length-1]:=List.getElem?_eq_getElem (by omega)
  rw [e,Option.bind_some,show ((0:Int) !=0)=false from rfl,cond_false,show IntKind.wrap .i64 ((t.length:Int)-1)=((t.length-1:Nat):Int) by rw [wrap64 (by omega) (by omega)];omega,Bl h1,Option.bind_some,show Ch t 0=some t[0] from Bl (i:=0) h0,Option.bind_some]
  exact ⟨_,rfl,fun _=>⟨ok,by first|exact e|trivial⟩⟩
 ·rw [e,Option.bind_some,bne_iff_ne.2 hz,cond_true]
  exact ⟨_,rfl,fun h=>by cases h⟩
theorem aD (n:Nat) (hn:64<n) (l:List (List Ab)) (w:Int):g5 n l 4 w=some false∨(g5 n l 4 w=some true∧l.length≤4∧∀x∈l,Cg x∧Kg n x=some 0):=by
 unfold g5
 by_cases h:(l.length:Int)≤4
 ·rw [decide_eq_true h,cond_true]
  have e:oD n l w=some (Ef (fun x=>(xC n x w).getD true) l):=by
   unfold oD
   exact Ii (fun x=>(xC n x w).getD true) l (by omega) (S:=fun y:Int=>Mx n l w (0) (l.length:Int) y) (fun i x hx=>by
    have:=Dt hx
    obtain ⟨b,hb,-⟩:=Xl n hn x w
    show Mx n l w (0) (l.length:Int) (i:Int)=_
    unfold Mx
    rw [decide_eq_true (show (i:Int)<_ by omega),cond_true,Bl hx,Option.bind_some,hb,Option.bind_some,wS (by omega)]
    cases b<;>rfl) (by
    show Mx n l w (0) (l.length:Int) (l.length:Int)=_
    unfold Mx
    rw [decide_eq_false (Int.lt_irrefl _)];rfl) n (by omega)
  unfold g40
  rw [e,Option.bind_some,Option.bind_some]
  by_cases hi:Ef (fun x=>(xC n x w).getD true) l<0
  ·right
   refine ⟨by rw [decide_eq_false (show ¬(Ef (fun x=>(xC n x w).getD true) l≥0) by omega)];rfl,by omega,fun x hx=> ?_⟩
   have hf:=(Lf _ l).1 hi x hx
   obtain ⟨b,hb,hb2⟩:=Xl n hn x w
   rw [hb] at hf
   exact hb2 hf
  ·left
   rw [decide_eq_true (show Ef (fun x=>(xC n x w).getD true) l≥0 by omega)];rfl
 ·left
  rw [decide_eq_false h];rfl
section
variable {n:Nat} (hn:Q2 n) {l:List (List Ab)} {s:Db} (h:Qs n l s) {w:Nat} (hw:w<l.length) {m:List Ab} (h':Qs n (l.set w m) s)
include hn h hw h'
theorem W8 (hc:Clear n l (w:Int) m s) (k:Nat) (hk:k≠w):Vr n (l.set w m) s w k=[]∧Vr n (l.set w m) s k w=[]:=by
 have e0:(l.set w m)[w]?=some m:=by rw [List.getElem?_set_self hw]
 rcases Nat.lt_or_ge k l.length with hlt|hge
 case inr=>exact ⟨Qg (.inr (by rw [List.length_set];exact hge)),Qg (.inl (by rw [List.length_set];exact hge))⟩
 have hx:l[k]?=some l[k]:=List.getElem?_eq_getElem hlt
 generalize l[k]=x at hx
 have e1:(l.set w m)[k]?=some x:=by rw [List.getElem?_set_ne (Ne.symm hk)];exact hx
 obtain ⟨p1,p2⟩:=h'.pair hn e0 e1
 obtain ⟨r,hr⟩:=hc k x hx (by omega)
 obtain ⟨c1,t1⟩:=h'.ck m (List.mem_of_getElem? e0)
 obtain ⟨c2,t2⟩:=h'.ck x (List.mem_of_getElem? e1)
 obtain ⟨r',hr',hv⟩:=Wx n hn c1 c2 s h'.sep p1.val
 rw [hr] at hr'
 cases hr'
 have:Vr n (l.set w m) s w k=[]:=by
  by_cases q:Vr n (l.set w m) s w k=[]
  ·exact q
  ·rw [decide_eq_false q] at hv
   cases hv
 exact ⟨this,p2.1 this⟩
theorem Adq (hc:Clear n l (w:Int) m s) (i j:Nat) (hij:i<j):Mo n (l.set w m) s i j=(Mo n l s i j).filter fun x=> !Iq (w:Int) x:=by
 have key:=fun c (hc:c∈Mo n l s i j)=>Oh hn h hc
 by_cases e1:i=w
 ·subst e1
  rw [List.filter_eq_nil_iff.2 fun x hx=>by
   have:=(key x hx).1
   unfold Iq
   simp [this]]
  unfold Mo
  rw [(W8 hn h hw h' hc j (by omega)).1];rfl
 by_cases e2:j=w
 ·subst e2
  rw [List.filter_eq_nil_iff.2 fun x hx=>by
   have:=(key x hx).2.1
   unfold Iq
   simp [this]]
  unfold Mo
  rw [(W8 hn h hw h' hc i (by omega)).2];rfl
 rw [List.filter_eq_self.2 fun x hx=>by
  obtain ⟨k1,k2,-⟩:=key x hx
  unfold Iq
  rw [k1,k2,beq_eq_false_iff_ne.2 (show ¬(i:Int)=(w:Int) by omega),beq_eq_false_iff_ne.2 (show ¬(j:Int)=(w:Int) by omega)]
  rfl]
 unfold Mo Vr
 rw [List.getElem?_set_ne (Ne.symm e1),List.getElem?_set_ne (Ne.symm e2)]
theorem bV (hc:Clear n l (w:Int) m s) (i:Nat):∀v,Kd n (l.set w m) s i v=(Kd n l s i v).filter fun x=> !Iq (w:Int) x
 |0=>rfl
 |v+1=>by
  unfold Kd
  rw [bV hc i v,List.filter_append]
  congr 1
  by_cases q:i<v
  ·rw [if_pos q,if_pos q,Adq hn h hw h' hc i v q]
  ·rw [if_neg q,if_neg q];rfl
theorem dM (hc:Clear n l (w:Int) m s):∀v,rows n (l.set w m) s v=(rows n l s v).filter fun x=> !Iq (w:Int) x
 |0=>rfl
 |v+1=>by
  unfold rows
  rw [dM hc v,List.filter_append,List.length_set,bV hn h hw h' hc v]
theorem iC {own:List Ab} (ho:l[w]?=some own) (hc:¬Clear n l (w:Int) own s):∃y∈rows n l s l.length,Iq (w:Int) y=true:=by
 obtain ⟨k,hk⟩:=Classical.not_forall.1 hc
 obtain ⟨x,hk⟩:=Classical.not_forall.1 hk
 obtain ⟨hx,hk⟩:=Classical.not_forall.1 hk
 obtain ⟨hne,hno⟩:=Classical.not_forall.1 hk
 have hkl:=Dt hx
 obtain ⟨p1,p2⟩:=h.pair hn ho hx
 obtain ⟨c1,t1⟩:=h.ck own (List.mem_of_getElem? ho)
 obtain ⟨c2,t2⟩:=h.ck x (List.mem_of_getElem? hx)
 obtain ⟨⟨u,e⟩,hf,he⟩:=Xr n hn t1 t2 c1 c2 s h.sep
 obtain ⟨r',hr',hv⟩:=Wx n hn c1 c2 s h.sep p1.val
 rw [hf] at hr'
 cases hr'
 have hsp:Vr n l s w k≠[]:=by
  intro q
  rw [decide_eq_true q] at hv
  rcases he with he|he
  ·have he:e=0:=he
   subst he
   cases hv
  ·have he:e=8:=he
   subst he
   exact hno ⟨u,hf⟩
 have mk:∀a b:Nat,a<b→b<l.length→Vr n l s a b≠[]→(a=w∨b=w)→∃y∈rows n l s l.length,Iq (w:Int) y=true:=fun a b hab hb hs hw'=>by
  obtain ⟨z,hz⟩:=List.exists_mem_of_ne_nil _ hs
  refine ⟨N6 a b z,Qr.2 ⟨a,b,by omega,hab,hb,List.mem_map.2 ⟨z,hz,rfl⟩⟩,?_⟩
  unfold Iq N6
  rcases hw' with rfl|rfl<;>simp
 rcases Nat.lt_or_ge w k with q|q
 ·exact mk w k q hkl hsp (.inl rfl)
 ·exact mk k w (by omega) hw (fun e=>hsp (p2.2 e)) (.inr rfl)
end
end Go.Proofs.YtkdodbfnocdkdaaGreatDoor
set_option linter.unusedVariables false
set_option linter.unusedSimpArgs false
set_option maxHeartbeats 4000000
namespace Go.Proofs.YtkdodbfnocdkdaaGreatDoor
theorem uR (n:Nat) (hn:200<n) {c:Ae} (hc:Po n c=some 0) {t:Int} (ht:0≤t∧t≤200000):g9 n ([]:List Ah) c t=some ([opened c t],0)∧g10 n [opened c t] c t=some ([],0):=by
 have h0:Lq n []:=⟨by simp,fun x hx=>by simp at hx,fun x hx=>by simp at hx,List.Pairwise.nil,List.Pairwise.nil⟩
 have p0:=vD n (by omega) [] c t h0 hc (fN ht.1 ht.2 (fun x hx=>by simp at hx))
 have hr:rest [] c=[]:=rfl
 have es:=Akk n (by omega) [] c t p0 h0
 rw [hr] at es
 have hcl:pB (opened c t)=c:=rfl
 have h1:Lq n [opened c t]:=⟨by simp,fun x hx=>by rw [List.mem_singleton.1 hx,hcl];exact hc,fun x hx=>by rw [List.mem_singleton.1 hx];exact ht,List.pairwise_singleton _ _,List.pairwise_singleton _ _⟩
 have p1:=vD n (by omega) [opened c t] c t h1 hc (fN ht.1 ht.2 (fun x hx=>by rw [List.mem_singleton.1 hx];exact Int.le_refl _))
 have hk:keyed c (opened c t)=true:=iY (opened c t)
 have hi:Ef (keyed c) [opened c t]=((0:Nat):Int):=by
  have h2:=(Og (keyed c) [opened c t]).2
  have h3:=Lf (keyed c) [opened c t]
  have h4:¬Ef (keyed c) [opened c t]<0:=fun q=>by
   have:=h3.1 q (opened c t) (List.mem_singleton_self _)
   rw [hk] at this
   cases this
  simp only [List.length_singleton] at h2
  omega
 have eh:=nX n (by omega) [opened c t] c t ht p1 h1 0 (opened c t) hi rfl hcl
 refine ⟨es,?_⟩
 rw [eh,if_neg (by show ¬t-t>40;omega)]
 rfl
theorem xP {α:Type} {l:List α} {i:Int} {x:α} (h:Ch l i=some x):∃w:Nat,i=(w:Int)∧l[w]?=some x:=by
 unfold Ch at h
 split at h
 ·rename_i h0
  exact ⟨i.toNat,by omega,h⟩
 ·cases h
theorem iK (n:Nat) (hn:Q2 n) (l:List (List Ab)) (i:Int) (s:Db) (t:Int) (k:Dg):g3 n l i s t k=some true:=by
 have hb:4000000000<n:=hn
 unfold g3 g4
 rw [Option.bind_some,Bool.not_true,cond_false]
 rcases aD n (by omega) l 200 with e|⟨e,h4,hok⟩
 ·rw [e];rfl
 rw [e,Option.bind_some,Bool.not_true,cond_false]
 rcases sJ hn (by omega) hok i s (⟨#[65,49]⟩:ByteArray) t k with ⟨z,hz,e1⟩|⟨hs,own,L,j,c,m,ho,hL,hl2,hj,e1,k1,k2,knc,kch,⟨hown,cown⟩,-⟩
 ·rw [e1,Option.bind_some]
  dsimp only
  rw [bne_iff_ne.2 hz,cond_true]
 rw [e1,Option.bind_some]
 dsimp only
 rw [show ((0:Int) !=0)=false from rfl,cond_false]
 obtain ⟨hsay,eb⟩:=qV n (by omega) kch
 have ep:=jH n (by omega) hsay kch
 have ht:0≤t∧t≤200000:=by
  rcases bH n (by omega) own c t k ⟨0,0⟩ with ⟨z,hz,e⟩|⟨ec,ok,hk,hfix,now,e4,-⟩
  ·rw [k1] at e
   cases e
   exact absurd rfl hz
  ·obtain ⟨-,-,n3,n4,-⟩:=Af6 n (by omega) own ok ec t now e4
   exact ⟨n3,n4⟩
 obtain ⟨esay,ehear⟩:=uR n (by omega) kch ht
 obtain ⟨w,rfl,hx⟩:=xP ho
 have hw:=Dt hx
 obtain ⟨r,er,hm⟩:=jV n (by omega) own c t k ⟨0,0⟩
 rw [k1] at er
 cases er
 obtain ⟨m1,m2⟩:=hm rfl
 have hA:Qs n l s:=⟨hs,by omega,fun x hx=>⟨(hok x hx).2,(hok x hx).1⟩⟩
 have hA':Qs n (l.set w m) s:=⟨hs,by rw [List.length_set];omega,fun x hx=>by
  rcases List.mem_or_eq_of_mem_set hx with q|q
  ·exact ⟨(hok x q).2,(hok x q).1⟩
  ·rw [q];exact ⟨m2,m1⟩⟩
 obtain ⟨⟨a1,z1⟩,ea1,hr1⟩:=jX hn hA
 obtain ⟨⟨a2,z2⟩,ea2,hr2⟩:=jX hn hA'
 rw [eb,Option.bind_some]
 dsimp only
 rw [ep,Option.bind_some]
 dsimp only
 rw [esay,Option.bind_some]
 dsimp only
 rw [ehear,Option.bind_some,ho,Option.bind_some,k1,Option.bind_some,ea1,Option.bind_some,Fk (by omega) (by omega),Option.bind_some,Option.bind_some]
 dsimp only
 rw [Int.toNat_natCast,ea2,Option.bind_some]
 simp only [show ((0:Int) !=0)=false from rfl,cond_false,Bool.not_true,List.length_nil,show decide (((0:Nat):Int)>0)=false from rfl]
 by_cases q1:z1=2
 ·rw [beq_iff_eq.2 q1,cond_true]
 rw [beq_eq_false_iff_ne.2 q1,cond_false]
 by_cases q2:z2=2
 ·rw [beq_iff_eq.2 q2,cond_true]
 rw [beq_eq_false_iff_ne.2 q2,cond_false]
 rcases hr1 with hr1|⟨f1,f2,f3,f4,f5⟩
 ·cases hr1;exact absurd rfl q1
 rcases hr2 with hr2|⟨g1,g2,g3,g4,g5⟩
 ·cases hr2;exact absurd rfl q2
 have f1:z1=0:=f1
 have g1:z2=0:=g1
 have f2:a1.Perm (rows n l s l.length):=f2
 have f5:a1.length≤256:=f5
 have g2:a2.Perm (rows n (l.set w m) s (l.set w m).length):=g2
 have g5:a2.length≤256:=g5
 obtain ⟨y,hy,hym⟩:=iC hn hA hw hA' hx knc
 have hya:y∈a1:=f2.mem_iff.2 hy
 have hne:neO a1=some ():=by
  cases a1 with
  |nil=>cases hya
  |cons _ _=>rfl
 have hlt:((a1.filter fun x=> !Iq (w:Int) x).length:Int)<(a1.length:Int):=by
  have:=(List.length_filter_lt_length_iff_exists (l:=a1) (p:=fun x=> !Iq (w:Int) x)).2 ⟨y,hya,show ¬(!Iq (w:Int) y)=true by rw [hym];decide⟩
  omega
 have hrs:=dM hn hA hw hA' k2 (l.set w m).length
 rw [List.length_set] at hrs g2
 have hperm:a2.Perm (a1.filter fun x=> !Iq (w:Int) x):=by
  rw [hrs] at g2
  exact g2.trans (f2.filter _).symm
 have heq:a2=a1.filter fun x=> !Iq (w:Int) x:=by
  obtain ⟨o1,o2,o3,o4⟩:=g4
  refine List.Perm.eq_of_pairwise (le:=fun a b=>Mi (fun x y=>Yp n x y) b a=false) (fun a b ha hb p q=> ?_) g3 (f3.filter _) hperm
  have ha':=g2.mem_iff.1 ha
  have hb':=g2.mem_iff.1 (hperm.mem_iff.2 hb)
  rcases o2 a (by rw [List.length_set];exact ha') b (by rw [List.length_set];exact hb') with k|k|k
  ·rw [q] at k;cases k
  ·rw [p] at k;cases k
  ·exact k
 rw [f1,g1,show ((0:Int)==0)=true from rfl,cond_true,cond_true,Fk (by omega) (by omega),Option.bind_some,hne,Option.bind_some,Ad4 n a1 (w:Int) (by omega) (by omega),Option.bind_some,decide_eq_true hlt,cond_true,Option.bind_some,Option.bind_some,Option.bind_some]
 rw [heq] at*
 rw [Alb n (by omega) _ _ (by omega) (by omega) rfl]
 rfl
theorem aL (l:List (List Ab)) (i:Int) (s:Db) (t:Int) (k:Dg):g3 10000000000 l i s t k=some true:=iK 10000000000 (by unfold Q2;decide) l i s t k
end Go.Proofs.YtkdodbfnocdkdaaGreatDoor
