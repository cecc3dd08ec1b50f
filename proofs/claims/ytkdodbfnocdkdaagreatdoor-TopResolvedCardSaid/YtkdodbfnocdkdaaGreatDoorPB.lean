/- A part. -/
import Derived.Test.YtkdodbfnocdkdaaGreatDoorPA
import Derived.Laws.IdiomStrings
import Derived.Laws.BytesArg
import Derived.Lib.AppendZerosOnto
import Derived.Lib.AppendZeros
set_option linter.unusedVariables false
set_option linter.unusedSimpArgs false
namespace Go.Proofs.YtkdodbfnocdkdaaGreatDoor
open Go.RowKit
section
variable {P:Program} {B n:Nat} {c:Cx} {ev:Operand→Value} {ρ:Operand→Option AV} {look:Nat→Option Be} {o:Oper}
def BV (d:Nat):Option Value→Nat→Prop
 |none,k=>k=d
 |some v,k=>∃q z,v=.int q z∧0≤z∧k=z.toNat
theorem E0 {isS:Bool} {len cap l h m:Nat} {lo hi mx:Option Value} (hlo:BV 0 lo l) (hhi:BV len hi h) (hmx:BV cap mx m) (h1:l≤h) (h2:h≤m) (h3:m≤cap) (hx:(mx.isSome && hi.isNone)=false) (w:World):
  (Instr.sliceBounds isS len cap lo hi mx).run P w=.ok (l,h,m) w:=by
 have sb:∀(q:IntKind) (z:Int) (y:Nat) (cd:BoundsCode),0≤z→z.toNat≤y→(Instr.sliceBound (.int q z) y cd).run P w=.ok z.toNat w:=by
  intro q z y cd hz hy
  have:z≤(y:Int):=by omega
  simp [Instr.sliceBound,asIntOf,hz,this]
 cases mx with
 |none=>
  simp only [BV] at hmx
  subst hmx
  cases hi with
  |none=>
   simp only [BV] at hhi
   subst hhi
   cases lo with
   |none=>simp only [BV] at hlo;subst hlo;simp [Instr.sliceBounds]
   |some v=>obtain ⟨q,z,rfl,hz,rfl⟩:=hlo;simp [Instr.sliceBounds,sb q z _ _ hz h1]
  |some v=>
   obtain ⟨q',z',rfl,hz',rfl⟩:=hhi
   cases lo with
   |none=>simp only [BV] at hlo;subst hlo;simp [Instr.sliceBounds,sb q' z' _ _ hz' h2]
   |some v=>obtain ⟨q,z,rfl,hz,rfl⟩:=hlo;simp [Instr.sliceBounds,sb q z _ _ hz h1,sb q' z' _ _ hz' h2]
 |some u=>
  obtain ⟨q2,z2,rfl,hz2,rfl⟩:=hmx
  cases hi with
  |none=>simp at hx
  |some v=>
   obtain ⟨q',z',rfl,hz',rfl⟩:=hhi
   cases lo with
   |none=>simp only [BV] at hlo;subst hlo;simp [Instr.sliceBounds,sb q' z' _ _ hz' h2,sb q2 z2 _ _ hz2 h3]
   |some v=>obtain ⟨q,z,rfl,hz,rfl⟩:=hlo;simp [Instr.sliceBounds,sb q z _ _ hz h1,sb q' z' _ _ hz' h2,sb q2 z2 _ _ hz2 h3]
theorem Vm {x:Option Operand} (hx:∀y∈x,∀a,ρ y=some a→Bo c a (ev y)) {y:Option AV} (h:x.mapM ρ=some y):y.isSome=x.isSome∧∀d k,K2 d y=some k→BV d (x.map ev) k:=by
 cases x with
 |none=>
  simp at h;subst h
  refine ⟨rfl,fun d k hb=> ?_⟩
  simp [K2] at hb
  simp [BV,hb]
 |some x=>
  simp only [Option.mapM_some] at h
  obtain ⟨a,ha,he⟩:=Option.map_eq_some_iff.1 h
  subst he
  refine ⟨rfl,fun d k hb=> ?_⟩
  have hr:=hx x (by simp) a ha
  unfold K2 at hb
  split at hb
  ·rename_i heq;cases heq
  ·rename_i q z heq
   simp only [Option.some.injEq] at heq
   subst heq
   cases hz:decide (0≤z) with
   |false=>simp [hz] at hb
   |true=>
    simp only [hz,cond_true,Option.some.injEq] at hb
    subst hb
    refine ⟨q,z,?_,by simpa using hz,rfl⟩
    generalize ev x=u at hr
    cases hr;rfl
  ·cases hb
theorem ok_slice (g:Good B c) (hl:∀id b,look id=some b→c.M id=some b) {t:TypeId} {x:Operand} {lo hi mx:Option Operand} (ho:o.op=.slice t x lo hi mx) {y v:AV} {d:Wr} {lo' hi' mx':Option AV} (hy:Bo c y (ev x))
  (hρ:∀z,z∈lo∨z∈hi∨z∈mx→∀a,ρ z=some a→Bo c a (ev z)) (e1:lo.mapM ρ=some lo') (e2:hi.mapM ρ=some hi') (e3:mx.mapM ρ=some mx') (h:Vf P look t y lo' hi' mx'=some (v,d)):Gs P B n c (execOp ev o) v d:=by
 obtain ⟨s1,b1⟩:=Vm (fun z hz=>hρ z (.inl hz)) e1
 obtain ⟨s2,b2⟩:=Vm (fun z hz=>hρ z (.inr (.inl hz))) e2
 obtain ⟨s3,b3⟩:=Vm (fun z hz=>hρ z (.inr (.inr hz))) e3
 have emx:∀(q:Bool),((mx.map ev).isSome && (hi.map ev).isNone)=(mx'.isSome && hi'.isNone):=by
  intro _
  have:hi'.isNone=hi.isNone:=by cases hi<;>cases hi'<;>simp_all
  simp [s3,this]
 unfold Vf at h
 split at h
 ·rename_i e hu
  split at h
  ·rename_i sz hs
   split at h
   ·
    split at h
    ·rename_i h1 h2 h3
     cases hq:(mx'.isSome && hi'.isNone) with
     |true=>simp [hq] at h
     |false=>
      simp only [hq,cond_false,Option.some.injEq,Prod.mk.injEq] at h
      obtain ⟨rfl,rfl⟩:=h
      generalize hev:ev x=u at hy
      cases hy
      have hb:=E0 (P:=P) (isS:=true) (len:=0) (cap:=0) (b1 _ _ h1) (b2 _ _ h2) (b3 _ _ h3) (Nat.le_refl 0) (Nat.le_refl 0) (Nat.le_refl 0) ((emx true).trans hq) c.w
      refine .still g (v':=.slice none 0 0) ?_ .Bg
      simp [execOp,ho,Instr.sliceAt,run_underlying hu,Instr.slice,hev,hb,Dk hs]
    ·cases h
   ·rename_i k cs ex
    split at h
    ·rename_i l hh m h1 h2 h3
     cases hq:(Nat.ble l hh && Nat.ble hh m && Nat.ble m k && Nat.beq cs.length (k*sz) && !(mx'.isSome && hi'.isNone)) with
     |false=>simp only [hq,cond_false,reduceCtorEq] at h
     |true=>
      simp only [hq,cond_true,Option.some.injEq,Prod.mk.injEq] at h
      obtain ⟨rfl,rfl⟩:=h
      simp only [Bool.and_eq_true,Bool.not_eq_true'] at hq
      obtain ⟨⟨⟨⟨q1,q2⟩,q3⟩,q4⟩,q5⟩:=hq
      have q1:=Nat.le_of_ble_eq_true q1
      have q2:=Nat.le_of_ble_eq_true q2
      have q3:=Nat.le_of_ble_eq_true q3
      have q4:=Nat.eq_of_beq_eq_true q4
      have key:∀(a:Option Addr) (cap:Nat),ev x=.slice a k cap→k≤cap→∃m',m≤m'∧m'≤cap∧(mx'.isSome=true→m'=m)∧(execOp ev o).run P c.w=.ok (.value (.slice (if m'=l then a else a.map (·.add (l*sz))) (hh-l) (m'-l))) c.w:=by
       intro a cap hev hk
       have hb3:=b3 k m h3
       cases hmx:mx with
       |none=>
        have hm0:mx'.isSome=false:=by rw [s3,hmx];rfl
        refine ⟨cap,by omega,Nat.le_refl _,(fun h=>by rw [hm0] at h;cases h),?_⟩
        have hb:=E0 (P:=P) (isS:=true) (len:=k) (cap:=cap) (mx:=none) (m:=cap) (b1 _ _ h1) (b2 _ _ h2) rfl q1 (by omega) (Nat.le_refl _) rfl c.w
        simp [execOp,ho,Instr.sliceAt,run_underlying hu,Instr.slice,hev,hmx,hb,Dk hs]
       |some mo=>
        refine ⟨m,Nat.le_refl _,by omega,fun _=>rfl,?_⟩
        have hb:=E0 (P:=P) (isS:=true) (len:=k) (cap:=cap) (mx:=mx.map ev) (m:=m) (b1 _ _ h1) (b2 _ _ h2) (by rw [hmx] at hb3 ⊢;exact hb3) q1 q2 (by omega) ((emx true).trans q5) c.w
        rw [hmx] at hb
        simp only [Option.map_some] at hb
        simp [execOp,ho,Instr.sliceAt,run_underlying hu,Instr.slice,hev,hmx,hb,Dk hs]
      generalize hev:ev x=u at hy
      cases hy with
      |Gd a cap ex he hm hn=>
       obtain ⟨m',k1,k2,k3,kr⟩:=key a cap hev (Nat.zero_le _)
       have hl0:l=0:=by omega
       have hh0:hh=0:=by omega
       have hm0:m=0:=by omega
       subst hl0 hh0 hm0
       refine .still g kr ?_
       have ea:(if m'=0 then a else a.map (·.add (0*sz)))=a:=by
        split
        ·rfl
        ·cases a with
         |none=>rfl
         |some a=>obtain ⟨b',o',s'⟩:=a;simp [Addr.add]
       rw [ea]
       simp only [Nat.zero_mul,List.drop_nil,List.take_nil,Nat.sub_zero,Nat.sub_self]
       refine .Gd a m' _ (fun h=> ?_) (by omega) (fun h=>by have:=hn h;omega)
       simp only [Bool.and_eq_true] at h
       exact k3 h.1
      |Ec hb hr hc hn he hm=>
       rename_i b' o' vs cap
       obtain ⟨m',k1,k2,k3,kr⟩:=key (some ⟨b',o',none⟩) cap hev hn
       refine .still g kr ?_
       by_cases hml:m'=l
       ·have:hh=l:=by omega
        subst this
        simp only [hml,if_true,Nat.sub_self,Nat.zero_mul,List.take_zero]
        exact .Gd _ 0 _ (fun _=>rfl) (by omega) (fun _=>rfl)
       ·simp only [hml,if_false,Option.map_some,Addr.add_lit]
        refine .Ec hb ((hr.drop _).take _) ?_ (by omega) (fun h=> ?_) (by omega)
        ·intro j u hj
         rw [List.getElem?_take] at hj
         split at hj
         ·rw [List.getElem?_drop] at hj
          have:=hc _ u hj
          rwa [← Nat.add_assoc] at this
         ·cases hj
        ·simp only [Bool.and_eq_true] at h
         have:=k3 h.1
         have:=Nat.eq_of_beq_eq_true h.2
         omega
    ·cases h
   ·rename_i id off esz k cap ex
    split at h
    ·rename_i l hh m h1 h2 h3
     cases hq:(Nat.ble l hh && Nat.ble hh m && Nat.ble m cap && Nat.beq esz sz && !(mx'.isSome && hi'.isNone)) with
     |false=>simp only [hq,cond_false,reduceCtorEq] at h
     |true=>
      simp only [hq,cond_true] at h
      simp only [Bool.and_eq_true,Bool.not_eq_true'] at hq
      obtain ⟨⟨⟨⟨q1,q2⟩,q3⟩,q4⟩,q5⟩:=hq
      have q1:=Nat.le_of_ble_eq_true q1
      have q2:=Nat.le_of_ble_eq_true q2
      have q3:=Nat.le_of_ble_eq_true q3
      have q4:=Nat.eq_of_beq_eq_true q4
      subst q4
      generalize hev:ev x=u at hy
      cases hy with
      |sl ha hb hs' hn hc he hm=>
       rename_i cap' arr T
       have key:∃m',m≤m'∧m'≤cap'∧((ex||mx'.isSome)=true→m'=m)∧(execOp ev o).run P c.w=.ok (.value (.slice (if m'=l then some ⟨c.f id,off,none⟩ else some ⟨c.f id,off+l*esz,none⟩) (hh-l) (m'-l))) c.w:=by
        have hb3:=b3 cap m h3
        cases hmx:mx with
        |none=>
         have hm0:mx'.isSome=false:=by rw [s3,hmx];rfl
         rw [hmx] at hb3
         simp only [Option.map_none,BV] at hb3
         refine ⟨cap',by omega,Nat.le_refl _,(fun h=>by rw [hm0,Bool.or_false] at h;rw [he h,hb3]),?_⟩
         have hb':=E0 (P:=P) (isS:=true) (len:=k) (cap:=cap') (mx:=none) (m:=cap') (b1 _ _ h1) (b2 _ _ h2) rfl q1 (by omega) (Nat.le_refl _) rfl c.w
         simp [execOp,ho,Instr.sliceAt,run_underlying hu,Instr.slice,hev,hmx,hb',Dk hs,Addr.add_lit]
        |some mo=>
         refine ⟨m,Nat.le_refl _,by omega,fun _=>rfl,?_⟩
         have hb':=E0 (P:=P) (isS:=true) (len:=k) (cap:=cap') (mx:=mx.map ev) (m:=m) (b1 _ _ h1) (b2 _ _ h2) (by rw [hmx] at hb3 ⊢;exact hb3) q1 q2 (by omega) ((emx true).trans q5) c.w
         rw [hmx] at hb'
         simp only [Option.map_some] at hb'
         simp [execOp,ho,Instr.sliceAt,run_underlying hu,Instr.slice,hev,hmx,hb',Dk hs,Addr.add_lit]
       obtain ⟨m',k1,k2,k3,kr⟩:=key
       cases hlm:Nat.beq l m with
       |true=>
        simp only [hlm,cond_true,Option.some.injEq,Prod.mk.injEq] at h
        obtain ⟨rfl,rfl⟩:=h
        have hlm:=Nat.eq_of_beq_eq_true hlm
        refine .still g kr ?_
        have e0:hh-l=0:=by omega
        rw [e0]
        refine .Gd _ (m'-l) _ (fun h=>by have:=k3 h;omega) (by omega) (fun h=> ?_)
        split at h<;>cases h
       |false=>
        simp only [hlm,cond_false,Option.some.injEq,Prod.mk.injEq] at h
        obtain ⟨rfl,rfl⟩:=h
        have hlm:=Nat.ne_of_beq_eq_false hlm
        refine .still g kr ?_
        have hml:¬m'=l:=by omega
        simp only [hml,if_false]
        refine .sl ha hb ?_ (by omega) (by omega) (fun h=>by have:=k3 h;omega) (by omega)
        have:l*esz+(m'-l)*esz≤cap'*esz:=by rw [← Nat.add_mul];exact Nat.mul_le_mul_right _ (by omega)
        omega
    ·cases h
   ·cases h
  ·cases h
 ·rename_i len e hu
  split at h
  ·rename_i sz hs
   split at h
   ·rename_i id off
    split at h
    ·rename_i b l hh m hb h1 h2 h3
     cases hq:(Nat.ble l hh && Nat.ble hh m && Nat.ble m len && Nat.ble (off+len*sz) b.cells.length && Nat.ble len 4611686018427387904 && !(mx'.isSome && hi'.isNone)) with
     |false=>simp only [hq,cond_false,reduceCtorEq] at h
     |true=>
      simp only [hq,cond_true] at h
      simp only [Bool.and_eq_true,Bool.not_eq_true'] at hq
      obtain ⟨⟨⟨⟨⟨q1,q2⟩,q3⟩,q4⟩,q6⟩,q5⟩:=hq
      have q1:=Nat.le_of_ble_eq_true q1
      have q2:=Nat.le_of_ble_eq_true q2
      have q3:=Nat.le_of_ble_eq_true q3
      have q4:=Nat.le_of_ble_eq_true q4
      have q6:=Nat.le_of_ble_eq_true q6
      obtain ⟨arr,vs,rest,k1,k2,k3,-⟩:=g.cells (hl id b hb)
      have hal:(vs++rest).length=arr.size:=by rw [← k2];simp
      have hvl:=k3.length
      generalize hev:ev x=u at hy
      cases hy with
      |ptr ha off=>
       have hb':=E0 (P:=P) (isS:=false) (len:=len) (cap:=len) (b1 _ _ h1) (b2 _ _ h2) (b3 _ _ h3) q1 q2 q3 ((emx true).trans q5) c.w
       have kr:(execOp ev o).run P c.w=.ok (.value (.slice (some (if m=l then ⟨c.f id,off,none⟩ else ⟨c.f id,off+l*sz,none⟩)) (hh-l) (m-l))) c.w:=by
        simp [execOp,ho,Instr.sliceAt,run_underlying hu,hev,Instr.sureAddr,hb',Dk hs,Addr.add_lit]
       cases hlm:Nat.beq l m with
       |true=>
        simp only [hlm,cond_true,Option.some.injEq,Prod.mk.injEq] at h
        obtain ⟨rfl,rfl⟩:=h
        have hlm:=Nat.eq_of_beq_eq_true hlm
        refine .still g kr ?_
        have e0:hh-l=0:=by omega
        rw [e0]
        exact .Gd _ (m-l) _ (fun _=>by omega) (by unfold maxLen;omega) (fun h=>by cases h)
       |false=>
        simp only [hlm,cond_false,Option.some.injEq,Prod.mk.injEq] at h
        obtain ⟨rfl,rfl⟩:=h
        have hlm:=Nat.ne_of_beq_eq_false hlm
        refine .still g kr ?_
        have hml:¬m=l:=fun h=>hlm h.symm
        simp only [hml,if_false]
        refine .sl ha k1 ?_ (by omega) (Nat.le_refl _) (fun _=>rfl) (by unfold maxLen;omega)
        have:l*sz+(m-l)*sz≤len*sz:=by rw [← Nat.add_mul];exact Nat.mul_le_mul_right _ (by omega)
        simp at hal
        omega
    ·cases h
   ·rename_i cs off
    split at h
    ·rename_i l hh m h1 h2 h3
     cases hq:(Nat.ble l hh && Nat.ble hh m && Nat.ble m len && Nat.ble (off+len*sz) cs.length && Nat.ble len 4611686018427387904 && !(mx'.isSome && hi'.isNone)) with
     |false=>simp only [hq,cond_false,reduceCtorEq] at h
     |true=>
      simp only [hq,cond_true] at h
      simp only [Bool.and_eq_true,Bool.not_eq_true'] at hq
      obtain ⟨⟨⟨⟨⟨q1,q2⟩,q3⟩,q4⟩,q6⟩,q5⟩:=hq
      have q1:=Nat.le_of_ble_eq_true q1
      have q2:=Nat.le_of_ble_eq_true q2
      have q3:=Nat.le_of_ble_eq_true q3
      have q4:=Nat.le_of_ble_eq_true q4
      have q6:=Nat.le_of_ble_eq_true q6
      generalize hev:ev x=u at hy
      cases hy with
      |Cq hbs hr hc off=>
       rename_i b' o' vs
       have hb':=E0 (P:=P) (isS:=false) (len:=len) (cap:=len) (b1 _ _ h1) (b2 _ _ h2) (b3 _ _ h3) q1 q2 q3 ((emx true).trans q5) c.w
       have kr:(execOp ev o).run P c.w=.ok (.value (.slice (some (if m=l then ⟨b',o'+off,none⟩ else ⟨b',o'+off+l*sz,none⟩)) (hh-l) (m-l))) c.w:=by
        simp [execOp,ho,Instr.sliceAt,run_underlying hu,hev,Instr.sureAddr,hb',Dk hs,Addr.add_lit]
       cases hlm:Nat.beq l m with
       |true=>
        simp only [hlm,cond_true,Option.some.injEq,Prod.mk.injEq] at h
        obtain ⟨rfl,rfl⟩:=h
        have hlm:=Nat.eq_of_beq_eq_true hlm
        refine .still g kr ?_
        have e0:hh-l=0:=by omega
        rw [e0]
        exact .Gd _ (m-l) _ (fun _=>by omega) (by unfold maxLen;omega) (fun h=>by cases h)
       |false=>
        simp only [hlm,cond_false,Option.some.injEq,Prod.mk.injEq] at h
        obtain ⟨rfl,rfl⟩:=h
        have hlm:=Nat.ne_of_beq_eq_false hlm
        refine .still g kr ?_
        have hml:¬m=l:=fun h=>hlm h.symm
        simp only [hml,if_false]
        refine .Ec hbs ((hr.drop _).take _) ?_ (by omega) (fun h=>by have:=Nat.eq_of_beq_eq_true h;omega) (by unfold maxLen;omega)
        intro j u hj
        rw [List.getElem?_take] at hj
        split at hj
        ·rw [List.getElem?_drop] at hj
         have:=hc _ u hj
         rw [← this]
         congr 2
         omega
        ·cases hj
    ·cases h
   ·cases h
  ·cases h
 ·cases h
end
end Go.Proofs.YtkdodbfnocdkdaaGreatDoor
set_option linter.unusedVariables false
set_option linter.unusedSimpArgs false
namespace Go.Proofs.YtkdodbfnocdkdaaGreatDoor
open Go.RowKit
section
variable {P:Program} {B n:Nat} {c:Cx} {ev:Operand→Value} {ρ:Operand→Option AV} {look:Nat→Option Be} {o:Oper}
theorem cT {op:BinOp} {x y v:Value} (h:L6 op x y=some v) (t:TypeId) (X Y:Operand) (w:World):(do eqGuard op t X Y x y;binOp op t x y:Sem Value).run P w=.ok v w∧Nx v=true:=by
 unfold L6 at h
 split at h
 ·rename_i k a k' b
  split at h
  ·rename_i hk
   subst hk
   cases op<;>simp only [reduceCtorEq,Option.some.injEq] at h<;>first
    |(subst h;refine ⟨?_,rfl⟩;simp [eqGuard,binOp,Op.intArith,Op.intCmp])
    |(cases hb:decide (b=0) with
      |true=>simp [hb] at h
      |false=>
       simp only [hb,cond_false,Option.some.injEq] at h
       subst h
       have hb':¬b=0:=by simpa using hb
       refine ⟨?_,rfl⟩
       simp [eqGuard,binOp,Op.intDiv,hb'])
  ·cases h
 ·rename_i a b
  cases op<;>simp only [reduceCtorEq,Option.some.injEq] at h<;>(subst h;refine ⟨?_,rfl⟩;simp [eqGuard,binOp,Op.stringOp])
 ·cases h
theorem I2 (g:Good B c) (hρ:∀x∈o.op.operands.toList,∀y,ρ x=some y→Bo c y (ev x)) {v:AV} {d:Wr} (h:Hu P ρ o=some (v,d)):Gs P B n c (execOp ev o) v d:=by
 unfold Hu at h
 cases hq:(Lp o.op && Rj ρ o.op.operands.toList) with
 |false=>simp only [hq,cond_false,reduceCtorEq] at h
 |true=>
  simp only [hq,cond_true] at h
  simp only [Bool.and_eq_true] at hq
  obtain ⟨q1,q2⟩:=hq
  have hs:∀cs b,o.op≠.select cs b:=by
   intro cs b he
   simp [he,Lp] at q1
  have hcg:execOp (fun x=>(Km ρ x).getD undef) o=execOp ev o:=by
   refine execOp_congr o hs fun x hx=> ?_
   have hx':x∈o.op.operands.toList:=by simpa using hx
   have:=List.all_eq_true.1 q2 x hx'
   obtain ⟨u,hu⟩:=Option.isSome_iff_exists.1 this
   unfold Km at hu
   obtain ⟨y,hy,hu'⟩:=Option.bind_eq_some_iff.1 hu
   have:=sN hu' (hρ x hx' y hy)
   simp [Km,hy,hu',this]
  rw [hcg] at h
  split at h
  ·rename_i u hu
   obtain ⟨y,hy,he⟩:=Option.map_eq_some_iff.1 h
   simp only [Prod.mk.injEq] at he
   obtain ⟨rfl,rfl⟩:=he
   exact .still g (Mu _ _ hu c.w) (Jj hy c)
  ·cases h
theorem I8 {t e:TypeId} (hu:P.underlying t=some (.slice e)) {a b:Option Addr} {k q k' q':Nat} (h:a=none∨b=none) (w:World):(Op.equal t (.slice a k q) (.slice b k' q')).run P w=.ok (a.isNone && b.isNone) w:=by
 have:∀d,(Op.equalIn (d+1) t (.slice a k q) (.slice b k' q')).run P w=.ok (a.isNone && b.isNone) w:=by
  intro d
  cases a<;>cases b<;>simp at h<;>simp [Op.equalIn,run_underlying hu]
 exact this 9999
theorem Wq {t e:TypeId} (hu:P.underlying t=some (.pointer e)) {a b:Option Addr} (h:a=none∨b=none) (w:World):(Op.equal t (.pointer a) (.pointer b)).run P w=.ok (a.isNone && b.isNone) w:=by
 have:∀d,(Op.equalIn (d+1) t (.pointer a) (.pointer b)).run P w=.ok (a.isNone && b.isNone) w:=by
  intro d
  cases a<;>cases b<;>simp at h<;>simp [Op.equalIn,run_underlying hu]
 exact this 9999
theorem N9 {y:AV} {s p:Bool} (h:Qc y=some (s,p)) {u:Value} (r:Bo c y u):(s=true∧∃a k q,u=.slice a k q∧a.isNone=p)∨(s=false∧∃a,u=.pointer a∧a.isNone=p):=by
 cases r with
 |Bg=>simp [Qc] at h;obtain ⟨rfl,rfl⟩:=h;exact .inl ⟨rfl,none,0,0,rfl,rfl⟩
 |Lb=>simp [Qc] at h;obtain ⟨rfl,rfl⟩:=h;exact .inr ⟨rfl,none,rfl,rfl⟩
 |ptr ha off=>simp [Qc] at h;obtain ⟨rfl,rfl⟩:=h;exact .inr ⟨rfl,_,rfl,rfl⟩
 |Cq a b d off=>simp [Qc] at h;obtain ⟨rfl,rfl⟩:=h;exact .inr ⟨rfl,_,rfl,rfl⟩
 |sl a b d e f g i=>simp [Qc] at h;obtain ⟨rfl,rfl⟩:=h;exact .inl ⟨rfl,_,_,_,rfl,rfl⟩
 |Gd a cap ex he hm hn=>simp [Qc] at h
 |Ec hb hr hc hn he hm=>
  rename_i b o' k cs vs cap ex
  cases cs with
  |nil=>simp [Qc] at h
  |cons x xs=>simp [Qc] at h;obtain ⟨rfl,rfl⟩:=h;exact .inl ⟨rfl,_,_,_,rfl,rfl⟩
 |_=>simp [Qc] at h
theorem j5 {op:BinOp} {t:TypeId} {a b:AV} {s p s' q:Bool} (ha:Qc a=some (s,p)) (hb:Qc b=some (s',q)) (hq:((p||q) && W2 P t s s')=true) {x y:Value} (hx:Bo c a x) (hy:Bo c b y) (X Y:Operand) (w:World):
  (op=.eql→(do eqGuard op t X Y x y;binOp op t x y:Sem Value).run P w=.ok (.bool (p && q)) w)∧(op=.neq→(do eqGuard op t X Y x y;binOp op t x y:Sem Value).run P w=.ok (.bool (!(p && q))) w):=by
 simp only [Bool.and_eq_true] at hq
 obtain ⟨q1,q2⟩:=hq
 unfold W2 at q2
 split at q2
 ·rename_i e hu
  simp only [Bool.and_eq_true] at q2
  obtain ⟨rfl,rfl⟩:=q2
  rcases N9 ha hx with ⟨-,a1,k1,c1,rfl,h1⟩|⟨h,-⟩
  ·rcases N9 hb hy with ⟨-,a2,k2,c2,rfl,h2⟩|⟨h,-⟩
   ·have hor:a1=none∨a2=none:=by
     rcases Bool.or_eq_true_iff.1 q1 with h|h
     ·left;rw [h] at h1;simpa using h1
     ·right;rw [h] at h2;simpa using h2
    have hr:=I8 (P:=P) hu (k:=k1) (q:=c1) (k':=k2) (q':=c2) hor w
    rw [h1,h2] at hr
    constructor<;>(intro h;subst h;simp [eqGuard,binOp,hr])
   ·cases h
  ·cases h
 ·rename_i e hu
  simp only [Bool.and_eq_true,Bool.not_eq_true'] at q2
  obtain ⟨rfl,rfl⟩:=q2
  rcases N9 ha hx with ⟨h,-⟩|⟨-,a1,rfl,h1⟩
  ·cases h
  ·rcases N9 hb hy with ⟨h,-⟩|⟨-,a2,rfl,h2⟩
   ·cases h
   ·have hor:a1=none∨a2=none:=by
     rcases Bool.or_eq_true_iff.1 q1 with h|h
     ·left;rw [h] at h1;simpa using h1
     ·right;rw [h] at h2;simpa using h2
    have hr:=Wq (P:=P) hu hor w
    rw [h1,h2] at hr
    constructor<;>(intro h;subst h;simp [eqGuard,binOp,hr])
 ·cases q2
theorem M5 {t:TypeId} {ms:_} (hu:P.underlying t=some (.interface ms)) (w:World):(Op.equal t .nilIface .nilIface).run P w=.ok true w:=by
 have:∀d,(Op.equalIn (d+1) t .nilIface .nilIface).run P w=.ok true w:=by
  intro d;simp [Op.equalIn,run_underlying hu]
 exact this 9999
theorem Mn {t:TypeId} {ms:_} (hu:P.underlying t=some (.interface ms)) (u:TypeId) (v:Value) (w:World):(Op.equal t (.iface u v) .nilIface).run P w=.ok false w:=by
 have:∀d,(Op.equalIn (d+1) t (.iface u v) .nilIface).run P w=.ok false w:=by
  intro d;simp [Op.equalIn,run_underlying hu]
 exact this 9999
theorem Ai9 (g:Good B c) {op:BinOp} {t:TypeId} {x:Operand} {q:TypeId} (ho:o.op=.binOp op t x (.const .nilIface) q) (hn:ev (.const .nilIface)=.nilIface) {y:AV} (hy:Bo c y (ev x)) {v:AV} {d:Wr} (h:Aks P op t y=some (v,d)):Gs P B n c (execOp ev o) v d:=by
 unfold Aks at h
 split at h
 ·rename_i p
  split at h
  ·rename_i ms hu
   simp only [Option.some.injEq,Prod.mk.injEq] at h
   obtain ⟨rfl,rfl⟩:=h
   refine .still g ?_ (.sc _ rfl)
   simp only [execOp,ho,hn]
   generalize ev x=u at hy
   cases hy with
   |Qe=>simp [eqGuard,binOp,M5 hu]
   |Tt u v=>simp [eqGuard,binOp,Mn hu]
  ·rename_i ms hu
   simp only [Option.some.injEq,Prod.mk.injEq] at h
   obtain ⟨rfl,rfl⟩:=h
   refine .still g ?_ (.sc _ rfl)
   simp only [execOp,ho,hn]
   generalize ev x=u at hy
   cases hy with
   |Qe=>simp [eqGuard,binOp,M5 hu]
   |Tt u v=>simp [eqGuard,binOp,Mn hu]
  ·cases h
 ·cases h
theorem Ak9 (g:Good B c) {op:BinOp} {t:TypeId} {x y:Operand} {z:Option (Nat×Nat)} (hop:∀w:World,(execOp ev o).run P w=((do eqGuard op t x y (ev x) (ev y);binOp op t (ev x) (ev y):Sem Value).run P w).andThen fun v w'=> .ok (.value v) w')
  (hρ:∀x∈o.op.operands.toList,∀y,ρ x=some y→Bo c y (ev x)) (mx:x∈o.op.operands.toList) (my:y∈o.op.operands.toList) {v:AV} {d:Wr} (h:nR P ρ o op t x y=some (v,d)):Gs P B n c (execOp ev o) v d:=by
 unfold nR at h
 split at h
 ·rename_i a b h1 h2
  split at h
  ·rename_i u hu
   simp only [Option.some.injEq,Prod.mk.injEq] at h
   obtain ⟨rfl,rfl⟩:=h
   have ex:ev x=a:=by have:=hρ x mx _ h1;generalize ev x=q at this;cases this;rfl
   have ey:ev y=b:=by have:=hρ y my _ h2;generalize ev y=q at this;cases this;rfl
   obtain ⟨hr,hs⟩:=cT (P:=P) hu t x y c.w
   refine .still g ?_ (.sc u hs)
   rw [hop,ex,ey,hr];rfl
  ·exact I2 g hρ h
 ·rename_i a b hnot h1 h2
  have hx:=hρ x mx _ h1
  have hy:=hρ y my _ h2
  split at h
  ·rename_i s p s' q n1 n2
   cases hq:((p||q) && W2 P t s s') with
   |false=>simp only [hq,cond_false,reduceCtorEq] at h
   |true=>
    simp only [hq,cond_true,Option.some.injEq,Prod.mk.injEq] at h
    obtain ⟨rfl,rfl⟩:=h
    refine .still g ?_ (.sc _ rfl)
    rw [hop,(j5 n1 n2 hq hx hy x y c.w).1 rfl];rfl
  ·rename_i s p s' q n1 n2
   cases hq:((p||q) && W2 P t s s') with
   |false=>simp only [hq,cond_false,reduceCtorEq] at h
   |true=>
    simp only [hq,cond_true,Option.some.injEq,Prod.mk.injEq] at h
    obtain ⟨rfl,rfl⟩:=h
    refine .still g ?_ (.sc _ rfl)
    rw [hop,(j5 n1 n2 hq hx hy x y c.w).2 rfl];rfl
  ·exact I2 g hρ h
 ·cases h
end
end Go.Proofs.YtkdodbfnocdkdaaGreatDoor
set_option linter.unusedVariables false
set_option linter.unusedSimpArgs false
namespace Go.Proofs.YtkdodbfnocdkdaaGreatDoor
open Go.RowKit
section
variable {P:Program} {B n:Nat} {c:Cx} {ev:Operand→Value} {ρ:Operand→Option AV} {look:Nat→Option Be} {o:Oper}
theorem kI {e:TypeId} {sz:Nat} (h:Df P e=some sz):∃i,P.info? e=some i∧i.size=sz∧(∀b,K1 P e=some b→i.bytes=b)∧(∀z,Gv P e=some z→i.zero=some z):=by
 unfold Df at h
 cases hi:P.info? e with
 |none=>simp [hi] at h
 |some i=>simp [hi] at h;exact ⟨i,rfl,h,fun b hb=>by simpa [K1,hi] using hb,fun z hz=>by simpa [Gv,hi] using hz⟩
structure zV (c:Cx) (sz m:Nat) (xs:List AV) (u:Value) (a:Option Addr) (cap:Nat) (news:List Value):Prop where
 u:u=.slice a m cap
 r:Bm c xs news
 len:news.length=m*sz
 le:m≤cap
 no:a=none→m=0∧cap=0
 mx:cap≤maxLen
 at_:∀b,a=some b→∀(j:Nat) (v:Value),news[j]?=some v→c.w.cell? (b.add j)=some v
theorem Ia (g:Good B c) (hl:∀id b,look id=some b→c.M id=some b) {sz m:Nat} {xs:List AV} {y:AV} {u:Value} (h:cellsOf look sz y=some (m,xs)) (r:Bo c y u):∃a cap news,zV c sz m xs u a cap news:=by
 unfold cellsOf at h
 split at h
 ·simp only [Option.some.injEq,Prod.mk.injEq] at h
  obtain ⟨rfl,rfl⟩:=h
  cases r
  exact ⟨none,0,[],rfl,.nil,by simp,Nat.le_refl _,fun _=>⟨rfl,rfl⟩,by unfold maxLen;omega,fun b hb=>by cases hb⟩
 ·rename_i k cs ex
  cases hq:Nat.beq cs.length (k*sz) with
  |false=>simp only [hq,cond_false,reduceCtorEq] at h
  |true=>
   simp only [hq,cond_true,Option.some.injEq,Prod.mk.injEq] at h
   obtain ⟨rfl,rfl⟩:=h
   have hq:=Nat.eq_of_beq_eq_true hq
   cases r with
   |Gd a cap ex he hm hn=>exact ⟨a,cap,[],rfl,.nil,by simp,Nat.zero_le _,fun h=>⟨rfl,hn h⟩,hm,fun b hb j v hj=>by simp at hj⟩
   |Ec hb hr hc hn he hm=>
    rename_i b o' vs cap
    refine ⟨_,cap,vs,rfl,hr,by rw [← hr.length];exact hq,hn,(fun h=>by cases h),hm,fun a ha j v hj=> ?_⟩
    simp only [Option.some.injEq] at ha
    subst ha
    rw [addr_add]
    exact hc j v hj
 ·rename_i id off esz k cap ex
  cases hb:look id with
  |none=>simp [hb] at h
  |some b=>
   simp only [hb] at h
   cases hq:(Nat.ble (off+k*sz) b.cells.length && Nat.beq esz sz) with
   |false=>simp only [hq,cond_false,reduceCtorEq] at h
   |true=>
    simp only [hq,cond_true,Option.some.injEq,Prod.mk.injEq] at h
    obtain ⟨rfl,rfl⟩:=h
    simp only [Bool.and_eq_true] at hq
    have q1:=Nat.le_of_ble_eq_true hq.1
    obtain ⟨arr,vs,rest,k1,k2,k3,k4⟩:=g.cells (hl id b hb)
    have hvl:=k3.length
    cases r with
    |sl ha hb' hs' hn hc he hm=>
     rename_i cap' arr' T
     refine ⟨_,cap',(vs.drop off).take (k*sz),rfl,(k3.drop _).take _,by simp;omega,by omega,(fun h=>by cases h),hm,fun a ha j v hj=> ?_⟩
     simp only [Option.some.injEq] at ha
     subst ha
     rw [addr_add]
     rw [List.getElem?_take] at hj
     split at hj
     ·rw [List.getElem?_drop] at hj
      have:=k4 _ v hj
      rwa [Nat.zero_add] at this
     ·cases hj
 ·cases h
theorem Yc {sz m:Nat} {xs:List AV} {u:Value} {a:Option Addr} {cap:Nat} {news:List Value} (s:zV c sz m xs u a cap news) {q:Nat} (hq:q≤m) (w:World) (hw:∀p,w.cell? p=c.w.cell? p):(Builtin.firstCells sz q u).run P w=.ok (news.take (q*sz)).toArray w:=by
 rw [s.u]
 cases ha:a with
 |none=>
  have:=(s.no ha).1
  have hl:=s.len
  rw [this,Nat.zero_mul] at hl
  have hn:news=[]:=List.length_eq_zero_iff.1 hl
  simp [Builtin.firstCells,hn]
 |some b=>
  have hle:q*sz≤news.length:=by rw [s.len];exact Nat.mul_le_mul_right _ hq
  have:=run_loadCells_list (P:=P) w b (news.take (q*sz)) (fun j v hj=>by
   rw [hw]
   rw [List.getElem?_take] at hj
   split at hj
   ·exact s.at_ b ha j v hj
   ·cases hj)
  have hl:(news.take (q*sz)).length=q*sz:=by simp;omega
  rw [hl] at this
  simpa [Builtin.firstCells] using this
theorem Od {sz m:Nat} {xs:List AV} {u:Value} {a:Option Addr} {cap:Nat} {news:List Value} (s:zV c sz m xs u a cap news) (w:World) (hw:∀p,w.cell? p=c.w.cell? p):(Builtin.firstCells sz m u).run P w=.ok news.toArray w:=by
 have:=Yc (P:=P) s (Nat.le_refl m) w hw
 rwa [← s.len,List.take_length] at this
theorem uO {sz m:Nat} {tx e':TypeId} {xs:List AV} {u:Value} {a:Option Addr} {cap:Nat} {news:List Value} (hk:P.underlying tx=some (.slice e')) (s:zV c sz m xs u a cap news) (h1:xs.all Cl=true):Src P sz tx u m news c.w:=
 ⟨.inl ⟨e',hk⟩,fun _=>by rw [s.u];rfl,Od s _ (fun _=>rfl),Od s _ (fun p=>by simp),s.len,cells_one s.r h1⟩
theorem Aed (g:Good B c) (hn:¬c.al n) {t tx ty e:TypeId} {i:TypeInfo} {z:Value} (ht:P.underlying t=some (.slice e)) (hi:P.info? e=some i) (hz:i.zero=some z) (hzs:z.cells.size=i.size) (h1:1≤i.size)
  {k:Nat} {old:List AV} {us:Value} {base:Option Addr} {cap:Nat} {olds:List Value} (so:zV c i.size k old us base cap olds) {m:Nat} {xs:List AV} {news:List Value} {xv:Value} (hsrc:Src P i.size tx xv m news c.w) (hxr:Bm c xs news)
  (hg:cap<k+m) (hb:(k+m)*i.bytes≤140737488355328) (hm:k+m≤4611686018427387904) {s:Sem Next} (hrun:∀w:World,s.run P w=((Builtin.append_ #[t,tx] ty #[us,xv]).run P w).andThen fun v w'=> .ok (.value v) w'):
  Gs P B n c s (.sl n 0 i.size (k+m) (k+m) false) [(n,some ⟨old++xs,e⟩)]:=by
 have hr:=run_append_grow_src (P:=P) c.w t tx ty e i z ht hi hz base k cap olds (by rw [← so.u];exact Od so _ (fun p=>by simp)) xv m news hsrc hg (by omega) (growslice_fits hg hb)
 have gd:=Ld g
 have hcap:=grownCap_ge c.w (k+m) cap e
 have hcm:=grownCap_le_maxLen c.w (k+m) cap e (by unfold maxLen;omega)
 have hzl:(Builtin.zeroCells z.cells (grownCap c.w (k+m) cap e-(k+m))).size=(grownCap c.w (k+m) cap e-(k+m))*i.size:=by simp [Builtin.zeroCells,hzs]
 have hrel:Bm c.drew (old++xs) (olds++news):=(so.r.append hxr).step (Hd c)
 refine ⟨_,_,c.drew.new n ((olds++news).toArray++Builtin.zeroCells z.cells (grownCap c.w (k+m) cap e-(k+m))) e (old++xs),?_,.inl rfl,Uc (c:=c.drew) (cap':=grownCap c.w (k+m) cap e) ?_ (Nat.le_refl _) hcap (fun h=>by cases h) hcm,(Hd c).trans (Mv gd hn _ e _),Rg gd hn (vs:=olds++news) (rest:=(Builtin.zeroCells z.cells (grownCap c.w (k+m) cap e-(k+m))).toList) (by simp) hrel,fun _=>Iff.rfl,fun _=>rfl⟩
 ·rw [hrun,so.u,hr];rfl
 ·have h2:=hsrc.newsLen
  have h3:=so.len
  simp only [Array.size_append,List.size_toArray,List.length_append,hzl,h2,h3]
  have:k*i.size+m*i.size+(grownCap c.w (k+m) cap e-(k+m))*i.size=grownCap c.w (k+m) cap e*i.size:=by
   rw [← Nat.add_mul,← Nat.add_mul];congr 1;omega
  omega
theorem O6 {t tx ty e:TypeId} {i:TypeInfo} (ht:P.underlying t=some (.slice e)) (hi:P.info? e=some i) {w:World} {b off sLen sCap:Nat} {x:Value} {m:Nat} {news:List Value} (hs:Src P i.size tx x m news w)
  (hroom:sLen+m≤sCap) {arr:Array Value} {T:TypeId} (hb:w.heap[b]?=some (.cells arr T)) (hfit:off+(sLen+m)*i.size≤arr.size):
  (Builtin.append_ #[t,tx] ty #[.slice (some ⟨b,off,none⟩) sLen sCap,x]).run P w=.ok (.slice (some ⟨b,off,none⟩) (sLen+m) sCap) (w.setRow b (arr.toList.take (off+sLen*i.size)++news++arr.toList.drop (off+sLen*i.size+news.length)).toArray):=by
 have hfit':off+sLen*i.size+news.length≤arr.size:=by rw [hs.newsLen];rw [Nat.add_mul] at hfit;omega
 have hst:=run_storeCells_at P b (off+sLen*i.size) T news 0 arr w hb (by simpa using hfit') hs.one
 simp only [Nat.add_zero] at hst
 rcases hs.kind with ⟨e',hk⟩|hk<;>simp [Builtin.append_,run_underlying ht,run_underlying hk,sizeOf,typeInfo,hi,hs.len,hroom,hs.cells,Addr.add_lit,hst]
theorem iI (g:Good B c) (hn:¬c.al n) (hl:∀id b,look id=some b→c.M id=some b) {t tx ty e:TypeId} {kn:IntKind} (ht:P.underlying t=some (.slice e)) (htx:P.underlying tx=some (.int kn)) {y z:AV} {us ux:Value} (hy:Bo c y us) (hz:Bo c z ux) {s:Sem Next}
  (hrun:∀w:World,s.run P w=((Builtin.append_ #[t,tx] ty #[us,ux]).run P w).andThen fun v w'=> .ok (.value v) w') {v:AV} {d:Wr} (h:M8 P look n e y z=some (v,d)):Gs P B n c s v d:=by
 unfold M8 at h
 split at h
 ·rename_i kz zz
  split at h
  ·rename_i sz by_ zs hs hb hzz
   obtain ⟨i,hi,rfl,hib,hiz⟩:=kI hs
   obtain rfl:=hib by_ hb
   obtain ⟨zv,hz1,hz2⟩:=Lv hzz c
   have hiz:=hiz zv hz1
   split at h
   ·cases hq:(decide (0<zz) && Nat.ble (zz.toNat*i.bytes) 281474976710656 && Nat.ble zz.toNat 4611686018427387904 && Nat.beq zs.length i.size && Nat.ble 1 i.size) with
    |false=>simp only [hq,cond_false,reduceCtorEq] at h
    |true=>
     simp only [hq,cond_true,Option.some.injEq,Prod.mk.injEq] at h
     obtain ⟨rfl,rfl⟩:=h
     simp only [Bool.and_eq_true] at hq
     obtain ⟨⟨⟨⟨q0,q2⟩,q3⟩,q4⟩,q5⟩:=hq
     have q0:=of_decide_eq_true q0
     have q2:=Nat.le_of_ble_eq_true q2
     have q3:=Nat.le_of_ble_eq_true q3
     have q4:=Nat.eq_of_beq_eq_true q4
     have q5:=Nat.le_of_ble_eq_true q5
     obtain ⟨m,rfl⟩:∃m:Nat,zz=(m:Int):=⟨zz.toNat,by omega⟩
     simp only [Int.toNat_natCast] at q2 q3 ⊢
     have hux:ux=.int kz (m:Int):=by cases hz;rfl
     have huy:us=.slice none 0 0:=by cases hy;rfl
     have hzs:zv.cells.size=i.size:=by have:=hz2.length;simp at this;omega
     have hr:=Lib.run_append_nil_zeros (P:=P) c.w t tx ty e i zv kz kn ht htx hi hiz m (by omega) (by omega) (by omega) (by omega)
     have gd:=Ld g
     have hcap:=grownCap_ge c.w m 0 e
     have hcm:=grownCap_le_maxLen c.w m 0 e (by unfold maxLen;omega)
     have hzl:(Builtin.zeroCells zv.cells (grownCap c.w m 0 e-m)).size=(grownCap c.w m 0 e-m)*i.size:=by simp [Builtin.zeroCells,hzs]
     have hzl2:(Builtin.zeroCells zv.cells m).size=m*i.size:=by simp [Builtin.zeroCells,hzs]
     have hrel:Bm c.drew (rep zs m) (rep zv.cells.toList m):=(Oy hz2 m).step (Hd c)
     refine ⟨_,_,c.drew.new n (Builtin.zeroCells zv.cells m++Builtin.zeroCells zv.cells (grownCap c.w m 0 e-m)) e (rep zs m),?_,.inl rfl,Uc (c:=c.drew) (cap':=grownCap c.w m 0 e) ?_ (Nat.le_refl _) hcap (fun h=>by cases h) hcm,(Hd c).trans (Mv gd hn _ e _),Rg gd hn (vs:=rep zv.cells.toList m) (rest:=(Builtin.zeroCells zv.cells (grownCap c.w m 0 e-m)).toList) (by simp [Ku zv.cells (by omega) m]) hrel,fun _=>Iff.rfl,fun _=>rfl⟩
     ·rw [hrun,huy,hux,hr];rfl
     ·simp only [Array.size_append,hzl,hzl2]
      have:m*i.size+(grownCap c.w m 0 e-m)*i.size=grownCap c.w m 0 e*i.size:=by
       rw [← Nat.add_mul];congr 1;omega
      omega
   ·rename_i id off esz q cap
    split at h
    ·rename_i k old hy'
     obtain ⟨base,cap',olds,so⟩:=Ia g hl hy' hy
     cases hq:(decide (0<zz) && Nat.ble (cap+1) (k+zz.toNat) && Nat.ble ((k+zz.toNat)*i.bytes) 140737488355328 && Nat.ble (k+zz.toNat) 4611686018427387904 && Nat.beq zs.length i.size && Nat.ble 1 i.size) with
     |false=>simp only [hq,cond_false,reduceCtorEq] at h
     |true=>
      simp only [hq,cond_true,Option.some.injEq,Prod.mk.injEq] at h
      obtain ⟨rfl,rfl⟩:=h
      simp only [Bool.and_eq_true] at hq
      obtain ⟨⟨⟨⟨⟨q0,q1⟩,q2⟩,q3⟩,q4⟩,q5⟩:=hq
      have q0:=of_decide_eq_true q0
      have q1:=Nat.le_of_ble_eq_true q1
      have q2:=Nat.le_of_ble_eq_true q2
      have q3:=Nat.le_of_ble_eq_true q3
      have q4:=Nat.eq_of_beq_eq_true q4
      have q5:=Nat.le_of_ble_eq_true q5
      obtain ⟨m,rfl⟩:∃m:Nat,zz=(m:Int):=⟨zz.toNat,by omega⟩
      simp only [Int.toNat_natCast] at q1 q2 q3 ⊢
      have hux:ux=.int kz (m:Int):=by cases hz;rfl
      have hcc:cap'=cap:=by
       have hu:=so.u
       generalize us=u at hy hu
       cases hy with
       |sl ha hb hs hn hc he hm=>
        simp only [Value.slice.injEq] at hu
        have:=he rfl
        omega
      subst hcc
      have hzs:zv.cells.size=i.size:=by have:=hz2.length;simp at this;omega
      have hg:cap'<k+m:=by omega
      have hr:=Lib.run_append_grow_zeros (P:=P) c.w t tx ty e i zv kz kn ht htx hi hiz base k cap' olds (by rw [← so.u];exact Od so _ (fun p=>by simp)) m (by omega) (by omega) hg (by omega) (by have:m*i.bytes≤(k+m)*i.bytes:=Nat.mul_le_mul_right _ (by omega);omega) (growslice_fits hg q2)
      have gd:=Ld g
      have hcap:=grownCap_ge c.w (k+m) cap' e
      have hcm:=grownCap_le_maxLen c.w (k+m) cap' e (by unfold maxLen;omega)
      have hzl:(Builtin.zeroCells zv.cells (grownCap c.w (k+m) cap' e-(k+m))).size=(grownCap c.w (k+m) cap' e-(k+m))*i.size:=by simp [Builtin.zeroCells,hzs]
      have hzl2:(Builtin.zeroCells zv.cells m).size=m*i.size:=by simp [Builtin.zeroCells,hzs]
      have hrel:Bm c.drew (old++rep zs m) (olds++rep zv.cells.toList m):=(so.r.append (Oy hz2 m)).step (Hd c)
      refine ⟨_,_,c.drew.new n (olds.toArray++Builtin.zeroCells zv.cells m++Builtin.zeroCells zv.cells (grownCap c.w (k+m) cap' e-(k+m))) e (old++rep zs m),?_,.inl rfl,Uc (c:=c.drew) (cap':=grownCap c.w (k+m) cap' e) ?_ (Nat.le_refl _) hcap (fun h=>by cases h) hcm,(Hd c).trans (Mv gd hn _ e _),Rg gd hn (vs:=olds++rep zv.cells.toList m) (rest:=(Builtin.zeroCells zv.cells (grownCap c.w (k+m) cap' e-(k+m))).toList) (by simp [Ku zv.cells (by omega) m]) hrel,fun _=>Iff.rfl,fun _=>rfl⟩
      ·rw [hrun,so.u,hux,hr];rfl
      ·have h3:=so.len
       simp only [Array.size_append,List.size_toArray,hzl,hzl2,h3]
       have:k*i.size+m*i.size+(grownCap c.w (k+m) cap' e-(k+m))*i.size=grownCap c.w (k+m) cap' e*i.size:=by
        rw [← Nat.add_mul,← Nat.add_mul];congr 1;omega
       omega
    ·cases h
   ·cases h
  ·cases h
 ·cases h
theorem oE (g:Good B c) (hn:¬c.al n) (hl:∀id b,look id=some b→c.M id=some b) {t tx ty:TypeId} {y z:AV} {us ux:Value} (hy:Bo c y us) (hz:Bo c z ux) {s:Sem Next}
  (hrun:∀w:World,s.run P w=((Builtin.append_ #[t,tx] ty #[us,ux]).run P w).andThen fun v w'=> .ok (.value v) w') {v:AV} {d:Wr} (h:Kh P look n t tx y z=some (v,d)):Gs P B n c s v d:=by
 unfold Kh at h
 split at h
 ·rename_i e e' ht htx
  split at h
  ·rename_i sz by_ zs hs hb hzz
   obtain ⟨i,hi,rfl,hib,hiz⟩:=kI hs
   obtain rfl:=hib by_ hb
   obtain ⟨zv,hz1,hz2⟩:=Lv hzz c
   have hiz:=hiz zv hz1
   split at h
   ·rename_i m xs hx
    obtain ⟨a,cap,news,sx⟩:=Ia g hl hx hz
    cases hm0:Nat.beq m 0 with
    |true=>
     have hm0':=Nat.eq_of_beq_eq_true hm0
     subst hm0'
     have hnil:news=[]:=List.length_eq_zero_iff.1 (by rw [sx.len];simp)
     have hxs:xs=[]:=List.length_eq_zero_iff.1 (by rw [sx.r.length,hnil];rfl)
     subst hxs
     have hsrc:Src P i.size tx ux 0 [] c.w:=by have:=uO htx sx rfl;rwa [hnil] at this
     simp only [hm0,cond_true] at h
     have main:∀(base:Option Addr) (k q:Nat),us=.slice base k q→k≤q→Gs P B n c s y []:=by
      intro base k q hu hkq
      refine .still g (v':=us) ?_ hy
      rw [hrun,hu,run_append_nothing c.w t tx ty e i ht hi base k q hkq ux hsrc];rfl
     split at h
     ·simp only [Option.some.injEq,Prod.mk.injEq] at h
      obtain ⟨rfl,rfl⟩:=h
      generalize hu:us=u at hy
      have hy0:=hy
      cases hy
      exact main none 0 0 hu (Nat.le_refl _)
     ·simp only [Option.some.injEq,Prod.mk.injEq] at h
      obtain ⟨rfl,rfl⟩:=h
      generalize hu:us=u at hy
      cases hy with
      |Gd a cap ex he hm hn=>exact main a 0 cap hu (Nat.zero_le _)
      |Ec hb hr hc hn he hm=>exact main _ _ _ hu hn
     ·simp only [Option.some.injEq,Prod.mk.injEq] at h
      obtain ⟨rfl,rfl⟩:=h
      generalize hu:us=u at hy
      cases hy with
      |sl ha hb hs hn hc he hm=>exact main _ _ _ hu (by omega)
     ·cases h
    |false=>
     have hm0':=Nat.ne_of_beq_eq_false hm0
     simp only [hm0,cond_false] at h
     split at h
     ·rename_i k old hy'
      obtain ⟨base,cap',olds,so⟩:=Ia g hl hy' hy
      cases hq:((Nat.ble ((k+m)*i.bytes) 140737488355328||cW y (k+m)) && Nat.ble (k+m) 4611686018427387904 && Nat.beq zs.length i.size && Nat.ble 1 i.size && xs.all Cl && Nat.beq xs.length (m*i.size) && Nat.beq old.length (k*i.size)) with
      |false=>simp only [hq,cond_false,reduceCtorEq] at h
      |true=>
       simp only [hq,cond_true] at h
       simp only [Bool.and_eq_true] at hq
       obtain ⟨⟨⟨⟨⟨⟨q1,q2⟩,q3⟩,q4⟩,q5⟩,q6⟩,q7⟩:=hq
       have q2:=Nat.le_of_ble_eq_true q2
       have q3:=Nat.eq_of_beq_eq_true q3
       have q4:=Nat.le_of_ble_eq_true q4
       have hsrc:=uO htx sx q5
       have hzs:zv.cells.size=i.size:=by have:=hz2.length;simp at this;omega
       have grow:cap'<k+m→cW y (k+m)=false→Gs P B n c s (.sl n 0 i.size (k+m) (k+m) false) [(n,some ⟨old++xs,e⟩)]:=fun hg hf=>Aed g hn ht hi hiz hzs q4 so hsrc sx.r hg (Nat.le_of_ble_eq_true (by simpa only [hf,Bool.or_false] using q1)) q2 hrun
       split at h
       ·simp only [Option.some.injEq,Prod.mk.injEq] at h
        obtain ⟨rfl,rfl⟩:=h
        refine grow ?_ rfl
        have hu:=so.u
        cases hy
        simp only [Value.slice.injEq] at hu
        omega
       ·simp only [Option.some.injEq,Prod.mk.injEq] at h
        obtain ⟨rfl,rfl⟩:=h
        refine grow ?_ rfl
        have hu:=so.u
        generalize us=u at hy hu
        cases hy with
        |Gd a q ex he hm hn=>simp only [Value.slice.injEq] at hu;have:=he rfl;omega
        |Ec hb hr hc hn he hm=>simp only [Value.slice.injEq] at hu;have:=he rfl;omega
       ·rename_i id off esz k' cap ex
        have hu:=so.u
        unfold cellsOf at hy'
        cases hb:look id with
        |none=>simp [hb] at hy'
        |some b=>
         simp only [hb] at hy'
         cases hq:(Nat.ble (off+k'*i.size) b.cells.length && Nat.beq esz i.size) with
         |false=>simp [hq] at hy'
         |true=>
          simp only [hq,cond_true,Option.some.injEq,Prod.mk.injEq] at hy'
          obtain ⟨rfl,hold⟩:=hy'
          simp only [Bool.and_eq_true] at hq
          obtain ⟨w1,w2⟩:=hq
          have w1:=Nat.le_of_ble_eq_true w1
          have w2:=Nat.eq_of_beq_eq_true w2
          subst w2
          have hM:=hl id b hb
          obtain ⟨arr,vs,rest,k1,k2,k3,-⟩:=g.cells hM
          have hvl:=k3.length
          have hal:(vs++rest).length=arr.size:=by rw [← k2];simp
          generalize hus:us=u at hy
          cases hy with
          |sl ha hb' hs' hkn hc he hm=>
           rename_i cp arr' T
           rw [hus] at hu
           simp only [Value.slice.injEq] at hu
           obtain ⟨hbase,-,hcp⟩:=hu
           subst hcp
           rw [k1] at hb'
           simp only [Option.some.injEq,Obj.cells.injEq,and_true] at hb'
           obtain ⟨rfl,rfl⟩:=hb'
           have room:k'+m≤cp→s.run P c.w=.ok (.value (.slice (some ⟨c.f id,off,none⟩) (k'+m) cp)) (c.w.setRow (c.f id) (arr.toList.take (off+k'*i.size)++news++arr.toList.drop (off+k'*i.size+news.length)).toArray):=by
            intro hroom
            have hfit:off+(k'+m)*i.size≤arr.size:=by
             have:(k'+m)*i.size≤cp*i.size:=Nat.mul_le_mul_right _ hroom
             omega
            rw [hrun,hus,O6 ht hi hsrc hroom k1 hfit];rfl
           cases hcap:Nat.ble (k'+m) cap with
           |true=>
            have hcap':=Nat.le_of_ble_eq_true hcap
            simp only [hcap,cond_true,hb] at h
            cases hf:Nat.ble (off+(k'+m)*i.size) b.cells.length with
            |false=>simp [hf] at h
            |true=>
             simp only [hf,cond_true,Option.some.injEq,Prod.mk.injEq] at h
             obtain ⟨rfl,rfl⟩:=h
             have hf:=Nat.le_of_ble_eq_true hf
             have hnl:=hsrc.newsLen
             refine .wrote g hM k1 k2 k3 (off:=off+k'*i.size) (new:=news) ?_ sx.r (room (by omega)) (.inl rfl) (fun c' st=> ?_)
             ·rw [hnl,← hvl];rw [Nat.add_mul] at hf;omega
             ·refine Bo.step st ?_
              exact .sl ha k1 hs' hcap' hc he hm
           |false=>
            have hcap':¬k'+m≤cap:=fun hh=>by rw [Nat.ble_eq_true_of_le hh] at hcap;cases hcap
            simp only [hcap,cond_false] at h
            cases hex:ex with
            |true=>
             simp only [hex,cond_true,Option.some.injEq,Prod.mk.injEq] at h
             obtain ⟨rfl,rfl⟩:=h
             have:=he hex
             exact grow (by omega) hcap
            |false=>
             simp only [hex,cond_false,hb] at h
             cases hq:(Nat.beq off 0 && Nat.beq b.ty e) with
             |false=>simp only [hq,cond_false,reduceCtorEq] at h
             |true=>
              simp only [hq,cond_true,Option.some.injEq,Prod.mk.injEq] at h
              obtain ⟨rfl,rfl⟩:=h
              simp only [Bool.and_eq_true] at hq
              have o0:=Nat.eq_of_beq_eq_true hq.1
              have te:=Nat.eq_of_beq_eq_true hq.2
              subst o0
              have hin:id≠n:=fun h=>hn (h ▸ ha)
              by_cases hroom:k'+m≤cp
              ·
               have hrr:=room hroom
               have hnl:=hsrc.newsLen
               have hol:old=b.cells.take (k'*i.size):=by rw [← hold];simp
               have holr:Bm c (old++xs) (vs.take (k'*i.size)++news):=by rw [hol];exact (k3.take _).append sx.r
               simp only [Nat.zero_add] at hrr w1 hs'
               have hmm:(k'+m)*i.size≤cp*i.size:=Nat.mul_le_mul_right _ hroom
               rw [Nat.add_mul] at hmm
               have e0:arr.toList.take (k'*i.size)++news++arr.toList.drop (k'*i.size+news.length)=(vs.take (k'*i.size)++news)++arr.toList.drop (k'*i.size+news.length):=by
                congr 2;rw [k2,List.take_append_of_le_length (by omega)]
               have hsz:(arr.toList.take (k'*i.size)++news++arr.toList.drop (k'*i.size+news.length)).toArray.size=arr.size:=by
                simp only [List.size_toArray,List.length_append,List.length_take,List.length_drop,Array.length_toList];omega
               generalize hA:(arr.toList.take (k'*i.size)++news++arr.toList.drop (k'*i.size+news.length)).toArray=A at hrr hsz
               have hA':A.toList=(vs.take (k'*i.size)++news)++arr.toList.drop (k'*i.size+news.length):=by rw [← hA];simpa using e0
               have st1:=Up (n:=id) g hM k1 hsz b.ty (old++xs)
               have g1:=dA (n:=id) g hM k1 hsz hA' holr
               have hn1:¬(c.put id id A b.ty (old++xs)).al n:=fun h=>by
                rcases h with h|h
                ·exact hn h
                ·exact hin h.symm
               have hM1:(c.put id id A b.ty (old++xs)).M id=some ⟨old++xs,b.ty⟩:=by simp [Cx.put]
               have ho1:(c.put id id A b.ty (old++xs)).w.heap[(c.put id id A b.ty (old++xs)).f id]?=some (.cells A b.ty):=setRow_heap _ _ _ _ _ _ k1
               have st2:=Yl g1 hn1 hM1 (old++xs) b.ty
               have g2:=mV g1 hn1 hM1 ho1 hA' (holr.step st1)
               refine ⟨_,_,(c.put id id A b.ty (old++xs)).pass n id (old++xs) b.ty,hrr,.inl rfl,?_,st1.trans st2,g2,?_,?_⟩
               ·have hfn:((c.put id id A b.ty (old++xs)).pass n id (old++xs) b.ty).f n=c.f id:=by simp [Cx.pass,Cx.put]
                have:=Bo.sl (c:=(c.put id id A b.ty (old++xs)).pass n id (old++xs) b.ty) (id:=n) (off:=0) (esz:=i.size) (n:=k'+m) (cap:=k'+m) (cap':=cp) (ex:=false) (arr:=A) (T:=b.ty) (.inr rfl) (by rw [hfn];exact ho1) (by rw [hsz];omega) (Nat.le_refl _) hroom (fun h=>by cases h) hm
                rw [hfn] at this
                exact this
               ·intro q
                show ((c.al q∨q=id)∨q=n)↔_
                constructor
                ·rintro ((h|rfl)|h)
                 ·exact .inl h
                 ·exact .inl ha
                 ·exact .inr h
                ·rintro (h|h)
                 ·exact .inl (.inl h)
                 ·exact .inr h
               ·intro q
                show (if q=id then none else if q=n then some ⟨old++xs,b.ty⟩ else (if q=id then some ⟨old++xs,b.ty⟩ else c.M q))=(if q=id then none else (if q=n then some ⟨old++xs,e⟩ else c.M q))
                rw [te]
                split
                ·rfl
                ·rfl
              ·obtain ⟨nx,v',c',r1,r2,r3,r4,r5,r6,r7⟩:=grow (by omega) hcap
               refine ⟨nx,v',c'.drop id,r1,r2,r3.step (K8 _ _),r4.trans (K8 _ _),Xe r5 _,r6,fun q=> ?_⟩
               show (if q=id then none else c'.M q)=(if q=id then none else (if q=n then some ⟨old++xs,e⟩ else c.M q))
               rw [r7 q]
               rfl
       ·cases h
     ·cases h
   ·cases h
  ·cases h
 ·rename_i e kn ht htx
  exact iI g hn hl ht htx hy hz hrun h
 ·cases h
end
end Go.Proofs.YtkdodbfnocdkdaaGreatDoor
set_option linter.unusedVariables false
set_option linter.unusedSimpArgs false
namespace Go.Proofs.YtkdodbfnocdkdaaGreatDoor
open Go.RowKit
section
variable {P:Program} {B n:Nat} {c:Cx} {ev:Operand→Value} {ρ:Operand→Option AV} {look:Nat→Option Be} {o:Oper}
theorem Ahg (g:Good B c) {t ty:TypeId} {y:AV} {u:Value} (hy:Bo c y u) {s:Sem Next} (hrun:∀w:World,s.run P w=((Builtin.len_ #[t] ty #[u]).run P w).andThen fun v w'=> .ok (.value v) w') {v:AV} {d:Wr} (h:Aj6 P t y=some (v,d)):Gs P B n c s v d:=by
 unfold Aj6 at h
 split at h
 ·rename_i e hu
  simp only [Option.some.injEq,Prod.mk.injEq] at h
  obtain ⟨rfl,rfl⟩:=h
  cases hy
  refine .still g ?_ (.sc _ rfl)
  rw [hrun];simp [Builtin.len_,run_underlying hu,goInt]
 ·rename_i e k cs ex hu
  simp only [Option.some.injEq,Prod.mk.injEq] at h
  obtain ⟨rfl,rfl⟩:=h
  cases hy<;>(refine .still g ?_ (.sc _ rfl);rw [hrun];simp [Builtin.len_,run_underlying hu,goInt])
 ·rename_i e id off esz k cap ex hu
  simp only [Option.some.injEq,Prod.mk.injEq] at h
  obtain ⟨rfl,rfl⟩:=h
  cases hy
  refine .still g ?_ (.sc _ rfl)
  rw [hrun];simp [Builtin.len_,run_underlying hu,goInt]
 ·rename_i s' hu
  simp only [Option.some.injEq,Prod.mk.injEq] at h
  obtain ⟨rfl,rfl⟩:=h
  cases hy
  refine .still g ?_ (.sc _ rfl)
  rw [hrun];simp [Builtin.len_,run_underlying hu,goInt]
 ·rename_i k e y hu
  simp only [Option.some.injEq,Prod.mk.injEq] at h
  obtain ⟨rfl,rfl⟩:=h
  refine .still g ?_ (.sc _ rfl)
  rw [hrun];simp [Builtin.len_,run_underlying hu,goInt]
 ·cases h
theorem Ag7 (g:Good B c) {t ty:TypeId} {y:AV} {u:Value} (hy:Bo c y u) {s:Sem Next} (hrun:∀w:World,s.run P w=((Builtin.cap_ #[t] ty #[u]).run P w).andThen fun v w'=> .ok (.value v) w') {v:AV} {d:Wr} (h:Aa2 P t y=some (v,d)):Gs P B n c s v d:=by
 unfold Aa2 at h
 split at h
 ·rename_i e id off esz k cap hu
  simp only [Option.some.injEq,Prod.mk.injEq] at h
  obtain ⟨rfl,rfl⟩:=h
  cases hy with
  |sl ha hb hs hn hc he hm=>
   obtain rfl:=he rfl
   refine .still g ?_ (.sc _ rfl)
   rw [hrun];simp [Builtin.cap_,run_underlying hu,goInt]
 ·rename_i e hu
  simp only [Option.some.injEq,Prod.mk.injEq] at h
  obtain ⟨rfl,rfl⟩:=h
  cases hy
  refine .still g ?_ (.sc _ rfl)
  rw [hrun];simp [Builtin.cap_,run_underlying hu,goInt]
 ·cases h
theorem Ae2 (g:Good B c) (hl:∀id b,look id=some b→c.M id=some b) {t tx ty:TypeId} {y z:AV} {ud us:Value} (hy:Bo c y ud) (hz:Bo c z us) {s:Sem Next}
  (hrun:∀w:World,s.run P w=((Builtin.copy_ #[t,tx] ty #[ud,us]).run P w).andThen fun v w'=> .ok (.value v) w') {v:AV} {d:Wr} (h:bT P look t tx y z=some (v,d)):Gs P B n c s v d:=by
 unfold bT at h
 split at h
 ·rename_i e hu
  split at h
  ·rename_i sz hs
   split at h
   ·rename_i m xs hx
    obtain ⟨a,cap,news,sx⟩:=Ia g hl hx hz
    split at h
    ·rename_i id off esz k cp ex
     split at h
     ·rename_i b hb
      cases hq:(Nat.ble (off+k*sz) b.cells.length && (xs.take (Nat.min m k*sz)).all Cl && Nat.beq esz sz) with
      |false=>simp only [hq,cond_false,reduceCtorEq] at h
      |true=>
       simp only [hq,cond_true,Option.some.injEq,Prod.mk.injEq] at h
       obtain ⟨rfl,rfl⟩:=h
       simp only [Bool.and_eq_true] at hq
       obtain ⟨⟨q1,q2⟩,q3⟩:=hq
       have q1:=Nat.le_of_ble_eq_true q1
       have hM:=hl id b hb
       obtain ⟨arr,vs,rest,k1,k2,k3,-⟩:=g.cells hM
       have hvl:=k3.length
       have hal:(vs++rest).length=arr.size:=by rw [← k2];simp
       generalize hud:ud=u at hy
       cases hy with
       |sl ha hb' hs' hkn hc he hm=>
        rename_i cp' arr' T
        have hmin:Nat.min m k≤m:=Nat.min_le_left _ _
        have hmin':Nat.min m k*sz≤k*sz:=Nat.mul_le_mul_right _ (Nat.min_le_right _ _)
        have hmin2:Nat.min m k*sz≤m*sz:=Nat.mul_le_mul_right _ hmin
        have hf:=Yc (P:=P) sx hmin c.w (fun _=>rfl)
        have hnl:(news.take (Nat.min m k*sz)).length=Nat.min m k*sz:=by rw [List.length_take,sx.len];omega
        simp at hal
        have hst:=run_storeCells_at P (c.f id) off b.ty (news.take (Nat.min m k*sz)) 0 arr c.w k1 (by rw [hnl];omega) (fun v hv=>cells_one (sx.r.take _) q2 v hv)
        simp only [Nat.add_zero] at hst
        refine .wrote g hM k1 k2 k3 (off:=off) (new:=news.take (Nat.min m k*sz)) (by rw [hnl];omega) (sx.r.take _) ?_ (.inl rfl) (fun c' st=> .sc _ rfl)
        have hlen:(Builtin.lenOf us).run P c.w=.ok m c.w:=by rw [sx.u];rfl
        rw [hrun,hud]
        simp only [Builtin.copy_,Sem.run_bind,run_underlying hu,Result.andThen_ok,hlen,Dk hs,hf,hst,goInt,Sem.run_pure,List.getElem?_toArray,List.getElem?_cons_zero,List.getElem?_cons_succ]
     ·cases h
    ·cases h
   ·cases h
  ·cases h
 ·cases h
theorem tO (g:Good B c) (hl:∀id b,look id=some b→c.M id=some b) {t ty:TypeId} {y:AV} {u:Value} (hy:Bo c y u) {s:Sem Next} (hrun:∀w:World,s.run P w=((Builtin.clear_ #[t] ty #[u]).run P w).andThen fun v w'=> .ok (.value v) w') {v:AV} {d:Wr} (h:Uo P look t y=some (v,d)):Gs P B n c s v d:=by
 have none_:∀(e:TypeId) (a:Option Addr) (k q:Nat),P.underlying t=some (.slice e)→(a=none∨k=0)→u=.slice a k q→Gs P B n c s (.Bn []) []:=by
  intro e a k q hu hk hue
  refine .still g (v':=.tuple #[]) ?_ (.Bn .nil)
  rw [hrun,hue]
  rcases hk with rfl|rfl
  ·simp [Builtin.clear_,run_underlying hu]
  ·cases a<;>simp [Builtin.clear_,run_underlying hu]
 unfold Uo at h
 split at h
 ·rename_i e hu
  split at h
  ·simp only [Option.some.injEq,Prod.mk.injEq] at h
   obtain ⟨rfl,rfl⟩:=h
   cases hy
   exact none_ e none 0 0 hu (.inl rfl) rfl
  ·simp only [Option.some.injEq,Prod.mk.injEq] at h
   obtain ⟨rfl,rfl⟩:=h
   cases hy with
   |Gd a cap ex he hm hn=>exact none_ e a 0 cap hu (.inr rfl) rfl
   |Ec hb hr hc hn he hm=>exact none_ e _ 0 _ hu (.inr rfl) rfl
  ·simp only [Option.some.injEq,Prod.mk.injEq] at h
   obtain ⟨rfl,rfl⟩:=h
   cases hy with
   |sl ha hb hs hn hc he hm=>exact none_ e _ 0 _ hu (.inr rfl) rfl
  ·rename_i id off esz k cap ex
   split at h
   ·rename_i sz zs b hs hz hb
    cases hq:(Nat.ble (off+(k+1)*sz) b.cells.length && zs.all Cl && Nat.beq esz sz && Nat.beq zs.length sz && Nat.ble 1 sz) with
    |false=>simp only [hq,cond_false,reduceCtorEq] at h
    |true=>
     simp only [hq,cond_true,Option.some.injEq,Prod.mk.injEq] at h
     obtain ⟨rfl,rfl⟩:=h
     simp only [Bool.and_eq_true] at hq
     obtain ⟨⟨⟨⟨q1,q2⟩,q3⟩,q4⟩,q5⟩:=hq
     have q1:=Nat.le_of_ble_eq_true q1
     have q4:=Nat.eq_of_beq_eq_true q4
     have q5:=Nat.le_of_ble_eq_true q5
     have hM:=hl id b hb
     obtain ⟨arr,vs,rest,k1,k2,k3,-⟩:=g.cells hM
     have hvl:=k3.length
     have hal:(vs++rest).length=arr.size:=by rw [← k2];simp
     obtain ⟨z,hz1,hz2⟩:=Lv hz c
     have hzl:z.cells.size=sz:=by have:=hz2.length;simp at this;omega
     have hzc:=Ku z.cells (by omega) (k+1)
     have hrl:(rep z.cells.toList (k+1)).length=(k+1)*sz:=by rw [J8];simp [hzl]
     have hone:∀q,∀v∈rep z.cells.toList q,v.oneCell'=true:=by
      intro q
      induction q with
      |zero=>intro v hv;simp [rep] at hv
      |succ q ih=>
       intro v hv
       rcases List.mem_append.1 hv with hv|hv
       ·exact cells_one hz2 q2 v hv
       ·exact ih v hv
     simp at hal
     have hst:=run_storeCells_at P (c.f id) off b.ty (rep z.cells.toList (k+1)) 0 arr c.w k1 (by rw [hrl];omega) (hone _)
     simp only [Nat.add_zero] at hst
     cases hy with
     |sl ha hb' hs' hkn hc he hm=>
      refine .wrote g hM k1 k2 k3 (off:=off) (new:=rep z.cells.toList (k+1)) (by rw [hrl];omega) (Oy hz2 _) ?_ (.inl rfl) (fun c' st=> .Bn .nil)
      rw [hrun]
      simp [Builtin.clear_,run_underlying hu,Li hz1,hzc,hst]
   ·cases h
  ·cases h
 ·cases h
theorem X4:∀{cs:List AV} {l:List UInt8} {vs:List Value},bytesOf cs=some l→Bm c cs vs→vs=l.map fun b=>Value.int .u8 b.toNat
 |[],l,vs,h,r=>by simp only [bytesOf,Option.some.injEq] at h;subst h;cases r;rfl
 |x::xs,l,vs,h,r=>by
  unfold bytesOf at h
  cases h1:byteOf x with
  |none=>simp [h1] at h
  |some b=>
   cases h2:bytesOf xs with
   |none=>simp [h1,h2] at h
   |some l'=>
    simp only [h1,h2,Option.some.injEq] at h
    subst h
    cases r with
    |cons r1 r2=>
     rw [X4 h2 r2,List.map_cons]
     congr 1
     unfold byteOf at h1
     split at h1
     ·rename_i z
      cases hq:(decide (0≤z) && decide (z<256)) with
      |false=>simp [hq] at h1
      |true=>
       simp only [hq,cond_true,Option.some.injEq] at h1
       subst h1
       simp only [Bool.and_eq_true,decide_eq_true_eq] at hq
       cases r1
       congr 1
       have:z.toNat % 256=z.toNat:=Nat.mod_eq_of_lt (by omega)
       simp [UInt8.toNat_ofNat,this]
       omega
     ·cases h1
theorem Wl (s:ByteArray):Bm c (byteCells s) (s.data.toList.map fun b=>Value.int .u8 b.toNat):=by
 unfold byteCells
 generalize s.data.toList=l
 induction l with
 |nil=>exact .nil
 |cons b l ih=>exact .cons (.sc _ rfl) ih
theorem Abt (g:Good B c) (hn:¬c.al n) (hl:∀id b,look id=some b→c.M id=some b) {src dst:TypeId} {x:Operand} (ho:o.op=.convert src dst x) (hρ:∀x∈o.op.operands.toList,∀y,ρ x=some y→Bo c y (ev x)) (mx:x∈o.op.operands.toList) {v:AV} {d:Wr} (h:Tj P ρ look o src dst x=some (v,d)):Gs P B n c (execOp ev o) v d:=by
 have hrun:∀w:World,(execOp ev o).run P w=((convert src dst (ev x)).run P w).andThen fun v w'=> .ok (.value v) w':=by
  intro w;simp [execOp,ho]
 unfold Tj at h
 split at h
 ·rename_i s e h1 hs hd
  have ex:ev x=.string s:=by have:=hρ x mx _ h1;generalize ev x=q at this;cases this;rfl
  split at h
  ·rename_i he
   cases hq:Nat.ble s.size 4611686018427387904 with
   |false=>simp only [hq,cond_false,reduceCtorEq] at h
   |true=>
    simp only [hq,cond_true,Option.some.injEq,Prod.mk.injEq] at h
    obtain ⟨rfl,rfl⟩:=h
    have hq:=Nat.le_of_ble_eq_true hq
    have hr:=run_bytes_of_string (P:=P) c.w src dst e s hs hd he
    have gd:=Ld g
    generalize hO:(Obj.cells (bytesRow s (grownCap c.w s.size 0 e)) e ((bytesRow s (grownCap c.w s.size 0 e)).size,(bytesRow s (grownCap c.w s.size 0 e)).size+1))=O at hr
    have st:=((Hd c).trans (X5 gd O)).trans (Ig (c.drew.more O) n)
    refine ⟨_,_,(c.drew.more O).tick n,by rw [hrun,ex,hr];rfl,.inl rfl,?_,st,Oe (oW gd O) n,fun _=>Iff.rfl,fun _=>rfl⟩
    refine Bo.step (Ig _ n) ?_
    refine .Ec (b:=c.w.heap.size) (o:=0) (aW gd O) (Wl s) ?_ (grownCap_ge c.w s.size 0 e) (fun h=>by cases h) (grownCap_le_maxLen _ _ _ _ (by unfold maxLen;omega))
    intro k v hv
    show (c.w.drew.alloc O).cell? _=_
    rw [← hO]
    have:=World.cell?_alloc_mark c.w.drew (bytesRow s (grownCap c.w s.size 0 e)) e ((bytesRow s (grownCap c.w s.size 0 e)).size,(bytesRow s (grownCap c.w s.size 0 e)).size+1) (0+k)
    refine this.trans ?_
    rw [Nat.zero_add]
    unfold bytesRow
    have hk:k<s.data.toList.length:=by
     have:=(List.getElem?_eq_some_iff.1 hv).1
     simpa using this
    rw [Array.getElem?_append_left (by simpa using hk)]
    rw [← Array.getElem?_toList]
    simpa using hv
  ·cases h
 ·rename_i y e h1 hs hd
  split at h
  ·rename_i he
   split at h
   ·rename_i m cs hc
    split at h
    ·rename_i l hb
     simp only [Option.some.injEq,Prod.mk.injEq] at h
     obtain ⟨rfl,rfl⟩:=h
     obtain ⟨a,cap,news,sx⟩:=Ia g hl hc (hρ x mx _ h1)
     have hnews:=X4 hb sx.r
     have hlen:l.length=m:=by have:=sx.len;rw [hnews] at this;simpa using this
     refine .still g ?_ (.sc _ rfl)
     rw [hrun,sx.u]
     cases ha:a with
     |none=>
      have h0:=(sx.no ha).1
      have:l=[]:=List.length_eq_zero_iff.1 (by omega)
      subst this
      subst h0
      have:=run_convert_bytes_string (P:=P) c.w src dst e none 0 cap hs he hd
      rw [this]
      rfl
     |some b=>
      rw [← hlen,run_convert_bytes_back c.w src dst e b cap l hs he hd (fun j hj=>by
       refine sx.at_ b ha j _ ?_
       rw [hnews]
       simp [hj])]
      rfl
    ·cases h
   ·cases h
  ·cases h
 ·exact I2 g hρ h
end
end Go.Proofs.YtkdodbfnocdkdaaGreatDoor
set_option linter.unusedVariables false
set_option linter.unusedSimpArgs false
namespace Go.Proofs.YtkdodbfnocdkdaaGreatDoor
open Go.RowKit
section
variable {P:Program} {B n:Nat} {c:Cx} {ev:Operand→Value} {ρ:Operand→Option AV} {look:Nat→Option Be} {o:Oper}
theorem cI {l:Array Operand} {a b:Operand} (h:l.toList=[a,b]):l=#[a,b]:=by apply Array.ext';simpa using h
theorem mD {l:Array TypeId} {a b:TypeId} (h:l.toList=[a,b]):l=#[a,b]:=by apply Array.ext';simpa using h
theorem Zv {l:Array Operand} {a:Operand} (h:l.toList=[a]):l=#[a]:=by apply Array.ext';simpa using h
theorem iN {l:Array TypeId} {a:TypeId} (h:l.toList=[a]):l=#[a]:=by apply Array.ext';simpa using h
theorem Akc (g:Good B c) (hn:¬c.al n) (hl:∀id b,look id=some b→c.M id=some b) (hρ:∀x∈o.op.operands.toList,∀y,ρ x=some y→Bo c y (ev x)) {v:AV} {d:Wr} (h:Pz P ρ look n o=some (v,d)):Gs P B n c (execOp ev o) v d:=by
 unfold Pz at h
 split at h
 ·rename_i x ho
  obtain ⟨y,hy,he⟩:=Option.map_eq_some_iff.1 h
  simp only [Prod.mk.injEq] at he
  obtain ⟨rfl,rfl⟩:=he
  exact jY g (.inl ho) (hρ x (by rw [ho];simp [Op.operands]) _ hy)
 ·rename_i x ho
  obtain ⟨y,hy,he⟩:=Option.map_eq_some_iff.1 h
  simp only [Prod.mk.injEq] at he
  obtain ⟨rfl,rfl⟩:=he
  exact jY g (.inr ho) (hρ x (by rw [ho];simp [Op.operands]) _ hy)
 ·rename_i t a b ho
  split at h
  ·rename_i q ht
   obtain ⟨y,hy,he⟩:=Option.map_eq_some_iff.1 h
   simp only [Prod.mk.injEq] at he
   obtain ⟨rfl,rfl⟩:=he
   refine Aex g ho (hρ t (by rw [ho];simp [Op.operands]) _ ht) ?_
   cases q
   ·exact hρ b (by rw [ho];simp [Op.operands]) _ hy
   ·exact hρ a (by rw [ho];simp [Op.operands]) _ hy
  ·cases h
 ·rename_i t ho
  split at h
  ·rename_i cs hcs
   simp only [Option.some.injEq,Prod.mk.injEq] at h
   obtain ⟨rfl,rfl⟩:=h
   exact Aa4 g hn ho hcs
  ·cases h
 ·rename_i t x ho
  split at h
  ·rename_i cs hcs
   simp only [Option.some.injEq,Prod.mk.injEq] at h
   obtain ⟨rfl,rfl⟩:=h
   obtain ⟨y,hy,hc⟩:=Option.bind_eq_some_iff.1 hcs
   exact Akx g hn ho (hρ x (by rw [ho];simp [Op.operands]) _ hy) hc
  ·cases h
 ·rename_i t a ho
  obtain ⟨y,hy,hc⟩:=Option.bind_eq_some_iff.1 h
  exact Aei g hl ho (hρ a (by rw [ho];simp [Op.operands]) _ hy) hc
 ·rename_i t a x ho
  split at h
  ·rename_i p y hp hy
   exact wF g hl ho (hρ a (by rw [ho];simp [Op.operands]) _ hp) (hρ x (by rw [ho];simp [Op.operands]) _ hy) h
  ·cases h
 ·rename_i t x fi ho
  obtain ⟨y,hy,hc⟩:=Option.bind_eq_some_iff.1 h
  exact Z8 g ho (hρ x (by rw [ho];simp [Op.operands]) _ hy) hc
 ·rename_i t x i ho
  split at h
  ·rename_i p y hp hy
   exact aQ g ho (hρ x (by rw [ho];simp [Op.operands]) _ hp) (hρ i (by rw [ho];simp [Op.operands]) _ hy) h
  ·cases h
 ·rename_i t x fi ho
  obtain ⟨y,hy,hc⟩:=Option.bind_eq_some_iff.1 h
  exact qC g ho (hρ x (by rw [ho];simp [Op.operands]) _ hy) hc
 ·rename_i t x i ho
  split at h
  ·rename_i cs y hp hy
   exact yV g ho (hρ x (by rw [ho];simp [Op.operands]) _ hp) (hρ i (by rw [ho];simp [Op.operands]) _ hy) h
  ·exact I2 g hρ h
 ·rename_i x i ho
  split at h
  ·rename_i vs hx
   obtain ⟨y,hy,he⟩:=Option.map_eq_some_iff.1 h
   simp only [Prod.mk.injEq] at he
   obtain ⟨rfl,rfl⟩:=he
   exact iG g ho (hρ x (by rw [ho];simp [Op.operands]) _ hx) hy
  ·cases h
 ·rename_i t parts ho
  obtain ⟨ys,hys,hc⟩:=Option.bind_eq_some_iff.1 h
  exact xT g ho (fun p hp y hy=>hρ p.2 (by rw [ho];simp only [Op.operands];exact List.mem_map.2 ⟨p,hp,rfl⟩) y hy) hys hc
 ·rename_i t len parts ho
  obtain ⟨ys,hys,hc⟩:=Option.bind_eq_some_iff.1 h
  exact V8 g hn ho (fun p hp y hy=>hρ p.2 (by rw [ho];simp only [Op.operands];exact List.mem_map.2 ⟨p,hp,rfl⟩) y hy) hys hc
 ·rename_i t l k ho
  split at h
  ·rename_i p y hp hy
   exact Y5 g hn ho (hρ l (by rw [ho];simp [Op.operands]) _ hp) (hρ k (by rw [ho];simp [Op.operands]) _ hy) h
  ·cases h
 ·rename_i t x lo hi mx ho
  split at h
  ·exact I2 g hρ h
  ·rename_i y hy hnot
   split at h
   ·rename_i lo' hi' mx' e1 e2 e3
    refine ok_slice g hl ho (hρ x (by rw [ho];simp [Op.operands]) _ hnot) (fun z hz a ha=>hρ z ?_ a ha) e1 e2 e3 h
    rw [ho]
    simp only [Op.operands,Array.toList_append,List.mem_append]
    rcases hz with hz|hz|hz
    ·exact .inl (.inl (.inr (by simpa using hz)))
    ·exact .inl (.inr (by simpa using hz))
    ·exact .inr (by simpa using hz)
   ·cases h
  ·cases h
 ·rename_i x ho
  split at h
  ·rename_i id off hx
   simp only [Option.some.injEq,Prod.mk.injEq] at h
   obtain ⟨rfl,rfl⟩:=h
   exact Np g ho (hρ x (by rw [ho];simp [Op.operands]) _ hx) rfl
  ·rename_i cs off hx
   simp only [Option.some.injEq,Prod.mk.injEq] at h
   obtain ⟨rfl,rfl⟩:=h
   exact Np g ho (hρ x (by rw [ho];simp [Op.operands]) _ hx) rfl
  ·rename_i f cs hx
   simp only [Option.some.injEq,Prod.mk.injEq] at h
   obtain ⟨rfl,rfl⟩:=h
   exact Np g ho (hρ x (by rw [ho];simp [Op.operands]) _ hx) rfl
  ·cases h
 ·rename_i f first caps ho
  split at h
  ·rename_i hf
   obtain ⟨y,hy,he⟩:=Option.map_eq_some_iff.1 h
   simp only [Prod.mk.injEq] at he
   obtain ⟨rfl,rfl⟩:=he
   exact bF g ho hf (fun x hx y hy=>hρ x (by rw [ho];simp only [Op.operands,Array.toList_append,List.mem_append];exact .inr hx) y hy) hy
  ·cases h
 ·rename_i op t x q ho
  split at h
  ·rename_i y hy hn
   have hn:=hρ (.const .nilIface) (by rw [ho];simp [Op.operands]) _ hn
   exact Ai9 g ho (by generalize ev (.const .nilIface)=u at hn;cases hn;rfl) (hρ x (by rw [ho];simp [Op.operands]) _ hy) h
  ·cases h
 ·rename_i op t x y q _ ho
  exact Ak9 (z:=none) g (fun w=>by simp only [execOp,ho,Sem.run_bind,Sem.run_pure]) hρ (by rw [ho];simp [Op.operands]) (by rw [ho];simp [Op.operands]) h
 ·rename_i args argTypes ho
  split at h
  ·rename_i s x t tx h1 h2
   obtain rfl:=cI h1
   obtain rfl:=mD h2
   split at h
   ·rename_i p y hp hy
    exact oE g hn hl (ty:=o.type) (hρ s (by rw [ho];simp [Op.operands,Call.operands]) _ hp) (hρ x (by rw [ho];simp [Op.operands,Call.operands]) _ hy) (fun w=>by simp [execOp,ho,resolve,invoke,builtin]) h
   ·cases h
  ·cases h
 ·rename_i args argTypes ho
  split at h
  ·rename_i x t h1 h2
   obtain rfl:=Zv h1
   obtain rfl:=iN h2
   obtain ⟨y,hy,hc⟩:=Option.bind_eq_some_iff.1 h
   exact Ahg g (ty:=o.type) (hρ x (by rw [ho];simp [Op.operands,Call.operands]) _ hy) (fun w=>by simp [execOp,ho,resolve,invoke,builtin]) hc
  ·cases h
 ·rename_i args argTypes ho
  split at h
  ·rename_i x t h1 h2
   obtain rfl:=Zv h1
   obtain rfl:=iN h2
   obtain ⟨y,hy,hc⟩:=Option.bind_eq_some_iff.1 h
   exact Ag7 g (ty:=o.type) (hρ x (by rw [ho];simp [Op.operands,Call.operands]) _ hy) (fun w=>by simp [execOp,ho,resolve,invoke,builtin]) hc
  ·cases h
 ·rename_i args argTypes ho
  split at h
  ·rename_i s x t tx h1 h2
   obtain rfl:=cI h1
   obtain rfl:=mD h2
   split at h
   ·rename_i p y hp hy
    exact Ae2 g hl (ty:=o.type) (hρ s (by rw [ho];simp [Op.operands,Call.operands]) _ hp) (hρ x (by rw [ho];simp [Op.operands,Call.operands]) _ hy) (fun w=>by simp [execOp,ho,resolve,invoke,builtin]) h
   ·cases h
  ·cases h
 ·rename_i args argTypes ho
  split at h
  ·rename_i x t h1 h2
   obtain rfl:=Zv h1
   obtain rfl:=iN h2
   obtain ⟨y,hy,hc⟩:=Option.bind_eq_some_iff.1 h
   exact tO g hl (ty:=o.type) (hρ x (by rw [ho];simp [Op.operands,Call.operands]) _ hy) (fun w=>by simp [execOp,ho,resolve,invoke,builtin]) hc
  ·cases h
 ·exact I2 g hρ h
 ·exact I2 g hρ h
 ·exact I2 g hρ h
 ·rename_i src dst x ho
  exact Abt g hn hl ho hρ (by rw [ho];simp [Op.operands]) h
 ·cases h
end
end Go.Proofs.YtkdodbfnocdkdaaGreatDoor
