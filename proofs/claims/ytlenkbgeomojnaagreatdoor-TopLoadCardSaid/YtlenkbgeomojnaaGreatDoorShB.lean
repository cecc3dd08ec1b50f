/- Answers of functions at closed values, by the evaluator. -/
import Derived.Test.YtlenkbgeomojnaaGreatDoorShF
set_option linter.unusedVariables false
set_option linter.unusedSimpArgs false
namespace Go.Proofs.YtlenkbgeomojnaaGreatDoor
def beqV:Value→Value→Bool
 |.int k z,.int k' z'=>decide (k=k') && decide (z=z')
 |.string s,.string s'=>decide (s=s')
 |.bool b,.bool b'=>b==b'
 |_,_=>false
theorem beqV_eq {a b:Value} (h:beqV a b=true):a=b:=by
 unfold beqV at h
 split at h
 ·simp at h;rw [h.1,h.2]
 ·simp at h;rw [h]
 ·rw [eq_of_beq h]
 ·cases h
mutual
def beqA:AV→AV→Bool
 |.sc v,.sc v'=>beqV v v'
 |.agg l,.agg l'=>beqAs l l'
 |.tup l,.tup l'=>beqAs l l'
 |.lst n l ex,.lst n' l' ex'=>Nat.beq n n' && beqAs l l' && (ex==ex')
 |_,_=>false
def beqAs:List AV→List AV→Bool
 |[],[]=>true
 |x::xs,y::ys=>beqA x y && beqAs xs ys
 |_,_=>false
end
mutual
theorem beqA_eq:∀(a b:AV),beqA a b=true→a=b
 |.sc v,b,h=>by
  cases b<;>simp only [beqA,Bool.false_eq_true] at h
  rw [beqV_eq h]
 |.agg l,b,h=>by
  cases b<;>simp only [beqA,Bool.false_eq_true] at h
  rw [beqAs_eq _ _ h]
 |.tup l,b,h=>by
  cases b<;>simp only [beqA,Bool.false_eq_true] at h
  rw [beqAs_eq _ _ h]
 |.lst n l ex,b,h=>by
  cases b<;>simp only [beqA,Bool.false_eq_true,Bool.and_eq_true] at h
  obtain ⟨⟨h1,h2⟩,h3⟩:=h
  rw [Nat.eq_of_beq_eq_true h1,beqAs_eq _ _ h2,beq_iff_eq.1 h3]
 |.und,b,h=>by simp [beqA] at h
 |.nilp,b,h=>by simp [beqA] at h
 |.ptr ..,b,h=>by simp [beqA] at h
 |.ept ..,b,h=>by simp [beqA] at h
 |.nils,b,h=>by simp [beqA] at h
 |.sl ..,b,h=>by simp [beqA] at h
 |.fn ..,b,h=>by simp [beqA] at h
 |.ifc _,b,h=>by simp [beqA] at h
theorem beqAs_eq:∀(a b:List AV),beqAs a b=true→a=b
 |[],[],_=>rfl
 |x::xs,y::ys,h=>by
  simp only [beqAs,Bool.and_eq_true] at h
  rw [beqA_eq _ _ h.1,beqAs_eq _ _ h.2]
 |[],_::_,h=>by simp [beqAs] at h
 |_::_,[],h=>by simp [beqAs] at h
end
def answers (P:Program) (K:Cfg) (sp:CallF) (k:Nat) (f:FuncId) (args:List AV) (v:AV):Bool:=
 cleans args && clean v && (match pureCall (evFnY P K sp k) (fun _=>none) f args with
  |some (u,[])=>beqA u v
  |_=>false)
theorem says_of_answers {P:Program} {K:Cfg} {sp:CallF} (hm:P.follows .mixedOrders=true) (hsp:CallOk P K.gl sp) {k:Nat} {f:FuncId} {args:List AV} {v:AV} (h:answers P K sp k f args v=true):Says P K.gl f args v:=by
 unfold answers at h
 simp only [Bool.and_eq_true] at h
 obtain ⟨⟨h1,h2⟩,h3⟩:=h
 split at h3
 ·rename_i u hp
  rw [beqA_eq _ _ h3] at hp
  refine ⟨h1,h2,⟨(pureCall_pre (evFnY_ok (K:=K) hm hsp k) hp).2,fun B c vals g gl _ hr=> ?_⟩⟩
  exact (pureCall_ok (evFnY_ok (K:=K) hm hsp k) g gl (look:=fun _=>none) (fun _ _ h=>by cases h) hr hp).2.2
 ·cases h3
/- the closed values of shownFact -/
def s1:ByteArray:=⟨#[65,49]⟩
def aTube:AV:=lstA TTubeNode.E [⟨0,0,0,9000,0,0⟩,⟨100,10000,0,9000,0,0⟩]
def aKind:AV:=.agg [strA ⟨#[74,69,84]⟩,intA 1,intA 40000,intA 50,intA 40,intA 50,intA 300]
def effA:List AV:=[aTube,.agg [strA s1,intA 0,intA 9500,strA ⟨#[]⟩],intA 0,aKind,.agg [intA 0,intA 0]]
def effV:AV:=.tup [lstA TTubeNode.E [⟨0,0,0,9000,0,0⟩,⟨10,1000,0,9500,0,0⟩,⟨100,10000,0,9500,0,0⟩],intA 0]
def candL:List (Int×Int):=[(0,10000),(0,8000),(2,115),(2,85),(1,1195),(1,853),(0,11000),(0,7000),(2,130),(2,70),(1,1366),(1,682),(0,12000),(0,6000),(2,145),(2,55),(1,1537),(1,511)]
def candA:List AV:=[strA s1,aTube,intA 0,aKind]
def candV:AV:=.tup [.lst 18 (candL.flatMap fun p=>[strA s1,intA p.1,intA p.2,strA ⟨#[]⟩]) false,intA 0]
def shiftA:List AV:=[aTube,.agg [intA 0,intA 0],intA 5]
def shiftV:AV:=.tup [lstA TTubeNode.E [⟨5,0,0,9000,0,0⟩,⟨105,10000,0,9000,0,0⟩],intA 0]
end Go.Proofs.YtlenkbgeomojnaaGreatDoor
