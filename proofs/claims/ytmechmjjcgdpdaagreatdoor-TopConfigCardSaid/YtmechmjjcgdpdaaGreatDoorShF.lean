/- A part. -/
import Derived.Test.YtmechmjjcgdpdaaGreatDoorX1E2
import Derived.Test.YtmechmjjcgdpdaaGreatDoorPY
set_option linter.unusedVariables false
set_option linter.unusedSimpArgs false
namespace Go.Proofs.YtmechmjjcgdpdaaGreatDoor
def aT:List AV→Option (List Ad)
 |[]=>some []
 |.sc (.int .i64 a)::.sc (.int .i64 b)::.sc (.int .i64 c)::.sc (.int .i64 d)::.sc (.int .i64 e)::.sc (.int .i64 f)::r=>match aT r with
  |some l=>some (⟨a,b,c,d,e,f⟩::l)
  |none=>none
 |_=>none
theorem aZ:∀{cs:List AV} {l:List Ad},aT cs=some l→cs=Az Ad.E l:=by
 intro cs
 induction cs using aT.induct with
 |case1=>intro l h;cases h;rfl
 |case2 a b c d e f r l' hr ih=>
  intro l h
  simp only [aT,hr] at h
  cases h
  rw [ih hr];rfl
 |case3 a b c d e f r hr ih=>intro l h;simp only [aT,hr] at h;cases h
 |case4 cs h1 h2=>
  intro l h
  unfold aT at h
  split at h
  ·exact absurd rfl h1
  ·rename_i a b c d e f r
   exact absurd rfl (h2 a b c d e f r)
  ·cases h
def Anf (m:List (Nat×Option Bk)) (nx id n:Nat) (i:Int) (wid k:Nat):Option (AV×List (Nat×Option Bk)×Nat):=
 match Ao m id,Ao m wid with
 |some b,some w=>bif Nat.beq b.ty 55 && Nat.beq w.ty 55 then
   (match aT b.cells,aT w.cells with
   |some l,some xs=>bif Nat.beq l.length n && Nat.beq xs.length k && !Nat.beq id wid && Nat.blt 0 l.length then
     (match Aei 48 l i xs with
     |some y=>some (B3 Ad.E nx y,Ac m [(nx,B9 Ad.E 55 y),(wid,none),(id,none)],nx+64)
     |none=>none) else none
   |_,_=>none) else none
 |_,_=>none
def spI:Ee:=fun f args m nx=>match args with
 |[.sl id 0 6 n n' false,.sc (.int .i64 i),.sl wid 0 6 k k' true]=>bif Nat.beq f 219 && Nat.beq n n' && Nat.beq k k' then Anf m nx id n i wid k else none
 |_=>none
theorem Ajx:E7 Tryz.prog KF.gl spI:=by
 intro f args m nx v m' nx' h
 unfold spI at h
 split at h
 ·rename_i id n n' i wid k k'
  cases h0:(Nat.beq f 219 && Nat.beq n n' && Nat.beq k k') with
  |false=>rw [h0] at h;cases h
  |true=>
   rw [h0,cond_true] at h
   simp only [Bool.and_eq_true] at h0
   have q1:=Nat.eq_of_beq_eq_true h0.1.1
   have q2:=Nat.eq_of_beq_eq_true h0.1.2
   have q3:=Nat.eq_of_beq_eq_true h0.2
   subst q1;subst q2;subst q3
   unfold Anf at h
   split at h
   ·rename_i b w hb hw
    cases h1:(Nat.beq b.ty 55 && Nat.beq w.ty 55) with
    |false=>rw [h1] at h;cases h
    |true=>
     rw [h1,cond_true] at h
     simp only [Bool.and_eq_true] at h1
     have t1:=Nat.eq_of_beq_eq_true h1.1
     have t2:=Nat.eq_of_beq_eq_true h1.2
     split at h
     ·rename_i l xs hl hx
      cases h2:(Nat.beq l.length n && Nat.beq xs.length k && !Nat.beq id wid && Nat.blt 0 l.length) with
      |false=>rw [h2] at h;cases h
      |true=>
       rw [h2,cond_true] at h
       simp only [Bool.and_eq_true,Bool.not_eq_true'] at h2
       have l1:=Nat.eq_of_beq_eq_true h2.1.1.1
       have l2:=Nat.eq_of_beq_eq_true h2.1.1.2
       have l3:id≠wid:=Nat.ne_of_beq_eq_false h2.1.2
       have l4:l≠[]:=by
        have:=Nat.le_of_ble_eq_true h2.2
        rintro rfl
        simp at this
       split at h
       ·rename_i y hy
        cases h
        have hb':Ao m id=B9 Ad.E 55 l:=by
         rw [C7 l4,hb,← aZ hl,← t1]
        have hw':Ao m wid=some ⟨Az Ad.E xs,55⟩:=by
         rw [hw,← aZ hx,← t2]
        have key:=Z5 (k:=fun v m'=>v=B3 Ad.E nx y∧m'=Ac m [(nx,B9 Ad.E 55 y),(wid,none),(id,none)]) (Aij (n:=nx) (look:=Ao m) (l0:=l) (xs0:=xs) rfl hb' rfl hw' l3 hy) ⟨rfl,rfl⟩
        rw [Ev l4] at key
        have ea:([.sl id 0 Ad.E.size l.length l.length false,Aa i,Eu Ad.E wid xs]:List AV)=[.sl id 0 6 n n false,.sc (.int .i64 i),.sl wid 0 6 k k true]:=by
         unfold Eu
         rw [l1,l2]
         rfl
        rw [ea] at key
        refine ⟨key.1,fun B c vals g hgl hM ha hr=>(key.2 B c vals g hgl hM ha hr).mono ?_⟩
        rintro e w' ⟨v,m',⟨rfl,rfl⟩,hp⟩
        exact hp
       ·cases h
     ·cases h
   ·cases h
 ·cases h
theorem Je {α:Type} {b:Bool} {x:Option α} {y:α} (h:(bif b then x else none)=some y):b=true∧x=some y:=by
 cases b
 ·cases h
 ·exact ⟨rfl,h⟩
def Abg:AV→Option (List Ad)
 |.Dh n cs false=>match aT cs with
  |some l=>bif Nat.beq l.length n then some l else none
  |none=>none
 |_=>none
theorem n5 {a:AV} {l:List Ad} (h:Abg a=some l):a=Ai Ad.E l:=by
 unfold Abg at h
 split at h
 ·rename_i n cs
  split at h
  ·rename_i l' hl
   obtain ⟨h1,h2⟩:=Je h
   cases h2
   rw [aZ hl,← Nat.eq_of_beq_eq_true h1]
  ·cases h
 ·cases h
def cf0:Ee:=fun f args m nx=>match args with
 |[a,b,.agg [.sc (.int .i64 x),.sc (.int .i64 y)]]=>bif Nat.beq f 28 then (Abg a).bind fun l=>(Abg b).bind fun k=>(g28 1000 l k (⟨x,y⟩:H6)).map fun z=>(.Bn [Aa z.1,Aa z.2],m,nx) else none
 |_=>none
theorem wZ:E7 Tryz.prog KF.gl cf0:=by
 intro f args m nx v m' nx' h
 unfold cf0 at h
 split at h
 ·obtain ⟨hf,h1⟩:=Je h
  obtain ⟨l,hl,h2⟩:=Option.bind_eq_some_iff.1 h1
  obtain ⟨k,hk,h3⟩:=Option.bind_eq_some_iff.1 h2
  obtain ⟨z,hz,e⟩:=Option.map_eq_some_iff.1 h3
  cases e
  rw [Nat.eq_of_beq_eq_true hf,n5 hl,n5 hk]
  exact Ey (K:=KF) (Aom hz)
 ·cases h
def Ap5:E6:=⟨60,60,60,60,120,60,60,60,180,120,90,60,240,180,120,120⟩
def ints:List AV→Option (List Int)
 |[]=>some []
 |.sc (.int .i64 z)::r=>match ints r with
  |some l=>some (z::l)
  |none=>none
 |_=>none
theorem nO:∀{cs:List AV} {l:List Int},ints cs=some l→cs=l.map Aa
 |[],l,h=>by cases h;rfl
 |c::r,l,h=>by
  unfold ints at h
  split at h
  ·rename_i e;cases e
  ·rename_i z r' e
   cases e
   split at h
   ·rename_i k hk
    cases h
    rw [nO hk];rfl
   ·cases h
  ·cases h
def Ao6:List Int:=[60,60,60,60,120,60,60,60,180,120,90,60,240,180,120,120]
theorem uT:g95 100 Ap5=some 0:=by decide+kernel
def wk:Ee:=fun f args m nx=>match args with
 |[.agg cs]=>bif Nat.beq f 95 then (match ints cs with
  |some l=>bif l==Ao6 then some (Aa 0,m,nx) else none
  |none=>none) else none
 |_=>none
theorem Ame:E7 Tryz.prog KF.gl wk:=by
 intro f args m nx v m' nx' h
 unfold wk at h
 split at h
 ·obtain ⟨hf,h1⟩:=Je h
  split at h1
  ·rename_i l hl
   obtain ⟨h2,h3⟩:=Je h1
   cases h3
   rw [Nat.eq_of_beq_eq_true hf,nO hl,eq_of_beq h2]
   exact Ey (K:=KF) (Aog uT)
  ·cases h1
 ·cases h
def spT:Ee:=fun f args m nx=>
 bif Nat.beq f 95 then wk f args m nx else
 bif Nat.beq f 28 then (match Fp cf0 (Ao m) f args with
  |some (v,[])=>some (v,m,nx)
  |_=>none) else spI f args m nx
theorem Y1:E7 Tryz.prog KF.gl spT:=by
 intro f args m nx v m' nx' h
 unfold spT at h
 cases hw:Nat.beq f 95 with
 |true=>rw [hw,cond_true] at h;exact Ame _ _ _ _ _ _ _ h
 |false=>
 rw [hw,cond_false] at h
 cases hf:Nat.beq f 28 with
 |false=>rw [hf,cond_false] at h;exact Ajx _ _ _ _ _ _ _ h
 |true=>
  rw [hf,cond_true] at h
  split at h
  ·rename_i v0 hp
   simp only [Option.some.injEq,Prod.mk.injEq] at h
   obtain ⟨rfl,rfl,rfl⟩:=h
   obtain ⟨-,hpl⟩:=K4 wZ hp
   refine ⟨hpl,fun B c vals g hgl hM ha hr=> ?_⟩
   refine (Jm wZ g hgl (look:=Ao m) (fun id b hb=>by rw [hM];exact hb) hr hp).2.2.mono ?_
   rintro e w' ⟨v',c',k1,k2,k3,k4,k5,k6,k7⟩
   exact ⟨v',c',k1,k2,k3,k4,k5,fun id=>(k6 id).trans (hM id),fun id hid=>ha id ((k7 id).1 hid)⟩
  ·cases h
def KS:I5:=⟨fun f=>Nat.beq f 25,KF.gl⟩
end Go.Proofs.YtmechmjjcgdpdaaGreatDoor
