/- Facts by the evaluator that knows slices.Insert of nodes (its capacity is not known there). -/
import Derived.Test.YtlenkbgeomojnaaGreatDoorX1E2
import Derived.Test.YtlenkbgeomojnaaGreatDoorPY
set_option linter.unusedVariables false
set_option linter.unusedSimpArgs false
namespace Go.Proofs.YtlenkbgeomojnaaGreatDoor
def dec6:List AV→Option (List TTubeNode)
 |[]=>some []
 |.sc (.int .i64 a)::.sc (.int .i64 b)::.sc (.int .i64 c)::.sc (.int .i64 d)::.sc (.int .i64 e)::.sc (.int .i64 f)::r=>match dec6 r with
  |some l=>some (⟨a,b,c,d,e,f⟩::l)
  |none=>none
 |_=>none
theorem dec6_eq:∀{cs:List AV} {l:List TTubeNode},dec6 cs=some l→cs=encs TTubeNode.E l:=by
 intro cs
 induction cs using dec6.induct with
 |case1=>intro l h;cases h;rfl
 |case2 a b c d e f r l' hr ih=>
  intro l h
  simp only [dec6,hr] at h
  cases h
  rw [ih hr];rfl
 |case3 a b c d e f r hr ih=>intro l h;simp only [dec6,hr] at h;cases h
 |case4 cs h1 h2=>
  intro l h
  unfold dec6 at h
  split at h
  ·exact absurd rfl h1
  ·rename_i a b c d e f r
   exact absurd rfl (h2 a b c d e f r)
  ·cases h
def insN (m:List (Nat×Option ABlk)) (nx id n:Nat) (i:Int) (wid k:Nat):Option (AV×List (Nat×Option ABlk)×Nat):=
 match mget m id,mget m wid with
 |some b,some w=>bif Nat.beq b.ty 129 && Nat.beq w.ty 129 then
   (match dec6 b.cells,dec6 w.cells with
   |some l,some xs=>bif Nat.beq l.length n && Nat.beq xs.length k && !Nat.beq id wid && Nat.blt 0 l.length then
     (match insO 48 l i xs with
     |some y=>some (ownV TTubeNode.E nx y,mpushs m [(nx,ownB TTubeNode.E 129 y),(wid,none),(id,none)],nx+64)
     |none=>none) else none
   |_,_=>none) else none
 |_,_=>none
def spI:CallF:=fun f args m nx=>match args with
 |[.sl id 0 6 n n' false,.sc (.int .i64 i),.sl wid 0 6 k k' true]=>bif Nat.beq f 212 && Nat.beq n n' && Nat.beq k k' then insN m nx id n i wid k else none
 |_=>none
theorem spI_ok:CallOk Tryz.prog KF.gl spI:=by
 intro f args m nx v m' nx' h
 unfold spI at h
 split at h
 ·rename_i id n n' i wid k k'
  cases h0:(Nat.beq f 212 && Nat.beq n n' && Nat.beq k k') with
  |false=>rw [h0] at h;cases h
  |true=>
   rw [h0,cond_true] at h
   simp only [Bool.and_eq_true] at h0
   have q1:=Nat.eq_of_beq_eq_true h0.1.1
   have q2:=Nat.eq_of_beq_eq_true h0.1.2
   have q3:=Nat.eq_of_beq_eq_true h0.2
   subst q1;subst q2;subst q3
   unfold insN at h
   split at h
   ·rename_i b w hb hw
    cases h1:(Nat.beq b.ty 129 && Nat.beq w.ty 129) with
    |false=>rw [h1] at h;cases h
    |true=>
     rw [h1,cond_true] at h
     simp only [Bool.and_eq_true] at h1
     have t1:=Nat.eq_of_beq_eq_true h1.1
     have t2:=Nat.eq_of_beq_eq_true h1.2
     split at h
     ·rename_i l xs hl hx
      cases h2:(Nat.beq l.length n && Nat.beq xs.length k && !Nat.beq id wid && Nat.blt 0 l.length) with
      |false=>rw [h2] at h;cases h
      |true=>
       rw [h2,cond_true] at h
       simp only [Bool.and_eq_true,Bool.not_eq_true'] at h2
       have l1:=Nat.eq_of_beq_eq_true h2.1.1.1
       have l2:=Nat.eq_of_beq_eq_true h2.1.1.2
       have l3:id≠wid:=Nat.ne_of_beq_eq_false h2.1.2
       have l4:l≠[]:=by
        have:=Nat.le_of_ble_eq_true h2.2
        rintro rfl
        simp at this
       split at h
       ·rename_i y hy
        cases h
        have hb':mget m id=ownB TTubeNode.E 129 l:=by
         rw [ownB_ne l4,hb,← dec6_eq hl,← t1]
        have hw':mget m wid=some ⟨encs TTubeNode.E xs,129⟩:=by
         rw [hw,← dec6_eq hx,← t2]
        have key:=callW_D (k:=fun v m'=>v=ownV TTubeNode.E nx y∧m'=mpushs m [(nx,ownB TTubeNode.E 129 y),(wid,none),(id,none)]) (ins212 (n:=nx) (look:=mget m) (l0:=l) (xs0:=xs) rfl hb' rfl hw' l3 hy) ⟨rfl,rfl⟩
        rw [ownV_ne l4] at key
        have ea:([.sl id 0 TTubeNode.E.size l.length l.length false,intA i,blkV TTubeNode.E wid xs]:List AV)=[.sl id 0 6 n n false,.sc (.int .i64 i),.sl wid 0 6 k k true]:=by
         unfold blkV
         rw [l1,l2]
         rfl
        rw [ea] at key
        refine ⟨key.1,fun B c vals g hgl hM ha hr=>(key.2 B c vals g hgl hM ha hr).mono ?_⟩
        rintro e w' ⟨v,m',⟨rfl,rfl⟩,hp⟩
        exact hp
       ·cases h
     ·cases h
   ·cases h
 ·cases h
theorem bif_then {α:Type} {b:Bool} {x:Option α} {y:α} (h:(bif b then x else none)=some y):b=true∧x=some y:=by
 cases b
 ·cases h
 ·exact ⟨rfl,h⟩
def decL:AV→Option (List TTubeNode)
 |.lst n cs false=>match dec6 cs with
  |some l=>bif Nat.beq l.length n then some l else none
  |none=>none
 |_=>none
theorem decL_eq {a:AV} {l:List TTubeNode} (h:decL a=some l):a=lstA TTubeNode.E l:=by
 unfold decL at h
 split at h
 ·rename_i n cs
  split at h
  ·rename_i l' hl
   obtain ⟨h1,h2⟩:=bif_then h
   cases h2
   rw [dec6_eq hl,← Nat.eq_of_beq_eq_true h1]
  ·cases h
 ·cases h
def cf0:CallF:=fun f args m nx=>match args with
 |[a,b,.agg [.sc (.int .i64 x),.sc (.int .i64 y)]]=>bif Nat.beq f 23 then (decL a).bind fun l=>(decL b).bind fun k=>(g23 1000 l k (⟨x,y⟩:TSep)).map fun z=>(.tup [intA z.1,intA z.2],m,nx) else none
 |_=>none
theorem cf0_ok:CallOk Tryz.prog KF.gl cf0:=by
 intro f args m nx v m' nx' h
 unfold cf0 at h
 split at h
 ·obtain ⟨hf,h1⟩:=bif_then h
  obtain ⟨l,hl,h2⟩:=Option.bind_eq_some_iff.1 h1
  obtain ⟨k,hk,h3⟩:=Option.bind_eq_some_iff.1 h2
  obtain ⟨z,hz,e⟩:=Option.map_eq_some_iff.1 h3
  cases e
  rw [Nat.eq_of_beq_eq_true hf,decL_eq hl,decL_eq hk]
  exact callPost_of_says (K:=KF) (sg23 hz)
 ·cases h
def stdT:TWakeTable:=⟨60,60,60,60,120,60,60,60,180,120,90,60,240,180,120,120⟩
def ints:List AV→Option (List Int)
 |[]=>some []
 |.sc (.int .i64 z)::r=>match ints r with
  |some l=>some (z::l)
  |none=>none
 |_=>none
theorem ints_eq:∀{cs:List AV} {l:List Int},ints cs=some l→cs=l.map intA
 |[],l,h=>by cases h;rfl
 |c::r,l,h=>by
  unfold ints at h
  split at h
  ·rename_i e;cases e
  ·rename_i z r' e
   cases e
   split at h
   ·rename_i k hk
    cases h
    rw [ints_eq hk];rfl
   ·cases h
  ·cases h
def stdL:List Int:=[60,60,60,60,120,60,60,60,180,120,90,60,240,180,120,120]
theorem wake_std:g86 100 stdT=some 0:=by decide+kernel
def wk:CallF:=fun f args m nx=>match args with
 |[.agg cs]=>bif Nat.beq f 86 then (match ints cs with
  |some l=>bif l==stdL then some (intA 0,m,nx) else none
  |none=>none) else none
 |_=>none
theorem wk_ok:CallOk Tryz.prog KF.gl wk:=by
 intro f args m nx v m' nx' h
 unfold wk at h
 split at h
 ·obtain ⟨hf,h1⟩:=bif_then h
  split at h1
  ·rename_i l hl
   obtain ⟨h2,h3⟩:=bif_then h1
   cases h3
   rw [Nat.eq_of_beq_eq_true hf,ints_eq hl,eq_of_beq h2]
   exact callPost_of_says (K:=KF) (sg86 wake_std)
  ·cases h1
 ·cases h
def spT:CallF:=fun f args m nx=>
 bif Nat.beq f 86 then wk f args m nx else
 bif Nat.beq f 23 then (match pureCall cf0 (mget m) f args with
  |some (v,[])=>some (v,m,nx)
  |_=>none) else spI f args m nx
theorem spT_ok:CallOk Tryz.prog KF.gl spT:=by
 intro f args m nx v m' nx' h
 unfold spT at h
 cases hw:Nat.beq f 86 with
 |true=>rw [hw,cond_true] at h;exact wk_ok _ _ _ _ _ _ _ h
 |false=>
 rw [hw,cond_false] at h
 cases hf:Nat.beq f 23 with
 |false=>rw [hf,cond_false] at h;exact spI_ok _ _ _ _ _ _ _ h
 |true=>
  rw [hf,cond_true] at h
  split at h
  ·rename_i v0 hp
   simp only [Option.some.injEq,Prod.mk.injEq] at h
   obtain ⟨rfl,rfl,rfl⟩:=h
   obtain ⟨-,hpl⟩:=pureCall_pre cf0_ok hp
   refine ⟨hpl,fun B c vals g hgl hM ha hr=> ?_⟩
   refine (pureCall_ok cf0_ok g hgl (look:=mget m) (fun id b hb=>by rw [hM];exact hb) hr hp).2.2.mono ?_
   rintro e w' ⟨v',c',k1,k2,k3,k4,k5,k6,k7⟩
   exact ⟨v',c',k1,k2,k3,k4,k5,fun id=>(k6 id).trans (hM id),fun id hid=>ha id ((k7 id).1 hid)⟩
  ·cases h
def KS:Cfg:=⟨fun f=>Nat.beq f 20,KF.gl⟩
end Go.Proofs.YtlenkbgeomojnaaGreatDoor
