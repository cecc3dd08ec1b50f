/- A part. -/
import Derived.Test.YtmechmjjcgdpdaaGreatDoorShF
set_option linter.unusedVariables false
set_option linter.unusedSimpArgs false
namespace Go.Proofs.YtmechmjjcgdpdaaGreatDoor
def Ajl:Value→Value→Bool
 |.int k z,.int k' z'=>decide (k=k') && decide (z=z')
 |.string s,.string s'=>decide (s=s')
 |.bool b,.bool b'=>b==b'
 |_,_=>false
theorem Afp {a b:Value} (h:Ajl a b=true):a=b:=by
 unfold Ajl at h
 split at h
 ·simp at h;rw [h.1,h.2]
 ·simp at h;rw [h]
 ·rw [eq_of_beq h]
 ·cases h
mutual
def Od:AV→AV→Bool
 |.sc v,.sc v'=>Ajl v v'
 |.agg l,.agg l'=>L6 l l'
 |.Bn l,.Bn l'=>L6 l l'
 |.Dh n l ex,.Dh n' l' ex'=>Nat.beq n n' && L6 l l' && (ex==ex')
 |_,_=>false
def L6:List AV→List AV→Bool
 |[],[]=>true
 |x::xs,y::ys=>Od x y && L6 xs ys
 |_,_=>false
end
mutual
theorem nF:∀(a b:AV),Od a b=true→a=b
 |.sc v,b,h=>by
  cases b<;>simp only [Od,Bool.false_eq_true] at h
  rw [Afp h]
 |.agg l,b,h=>by
  cases b<;>simp only [Od,Bool.false_eq_true] at h
  rw [Io _ _ h]
 |.Bn l,b,h=>by
  cases b<;>simp only [Od,Bool.false_eq_true] at h
  rw [Io _ _ h]
 |.Dh n l ex,b,h=>by
  cases b<;>simp only [Od,Bool.false_eq_true,Bool.and_eq_true] at h
  obtain ⟨⟨h1,h2⟩,h3⟩:=h
  rw [Nat.eq_of_beq_eq_true h1,Io _ _ h2,beq_iff_eq.1 h3]
 |.El,b,h=>by simp [Od] at h
 |.Jk,b,h=>by simp [Od] at h
 |.ptr ..,b,h=>by simp [Od] at h
 |.B6 ..,b,h=>by simp [Od] at h
 |.Bp,b,h=>by simp [Od] at h
 |.sl ..,b,h=>by simp [Od] at h
 |.fn ..,b,h=>by simp [Od] at h
 |.ifc _,b,h=>by simp [Od] at h
theorem Io:∀(a b:List AV),L6 a b=true→a=b
 |[],[],_=>rfl
 |x::xs,y::ys,h=>by
  simp only [L6,Bool.and_eq_true] at h
  rw [nF _ _ h.1,Io _ _ h.2]
 |[],_::_,h=>by simp [L6] at h
 |_::_,[],h=>by simp [L6] at h
end
def answers (P:Program) (K:I5) (sp:Ee) (k:Nat) (f:FuncId) (args:List AV) (v:AV):Bool:=
 Ap args && clean v && (match Fp (S5 P K sp k) (fun _=>none) f args with
  |some (u,[])=>Od u v
  |_=>false)
theorem H0 {P:Program} {K:I5} {sp:Ee} (hm:P.follows .mixedOrders=true) (hsp:E7 P K.gl sp) {k:Nat} {f:FuncId} {args:List AV} {v:AV} (h:answers P K sp k f args v=true):Cj P K.gl f args v:=by
 unfold answers at h
 simp only [Bool.and_eq_true] at h
 obtain ⟨⟨h1,h2⟩,h3⟩:=h
 split at h3
 ·rename_i u hp
  rw [nF _ _ h3] at hp
  refine ⟨h1,h2,⟨(K4 (Lp (K:=K) hm hsp k) hp).2,fun B c vals g gl _ hr=> ?_⟩⟩
  exact (Jm (Lp (K:=K) hm hsp k) g gl (look:=fun _=>none) (fun _ _ h=>by cases h) hr hp).2.2
 ·cases h3
def s1:ByteArray:=⟨#[65,49]⟩
def uA:AV:=Ai Ad.E [⟨0,0,0,9000,0,0⟩,⟨100,10000,0,9000,0,0⟩]
def Ahu:AV:=.agg [Bq ⟨#[74,69,84]⟩,Aa 1,Aa 40000,Aa 50,Aa 40,Aa 50,Aa 300]
def Am0:List AV:=[uA,.agg [Bq s1,Aa 0,Aa 9500,Bq ⟨#[]⟩],Aa 0,Ahu,.agg [Aa 0,Aa 0]]
def Alm:AV:=.Bn [Ai Ad.E [⟨0,0,0,9000,0,0⟩,⟨10,1000,0,9500,0,0⟩,⟨100,10000,0,9500,0,0⟩],Aa 0]
def Alx:List (Int×Int):=[(0,10000),(0,8000),(2,115),(2,85),(1,1195),(1,853),(0,11000),(0,7000),(2,130),(2,70),(1,1366),(1,682),(0,12000),(0,6000),(2,145),(2,55),(1,1537),(1,511)]
def Aht:List AV:=[Bq s1,uA,Aa 0,Ahu]
def Ah4:AV:=.Bn [.Dh 18 (Alx.flatMap fun p=>[Bq s1,Aa p.1,Aa p.2,Bq ⟨#[]⟩]) false,Aa 0]
def xH:List AV:=[uA,.agg [Aa 0,Aa 0],Aa 5]
def Aa2:AV:=.Bn [Ai Ad.E [⟨5,0,0,9000,0,0⟩,⟨105,10000,0,9000,0,0⟩],Aa 0]
end Go.Proofs.YtmechmjjcgdpdaaGreatDoor
